/- A part of the proofs of chapter 05: the small machine that walks the program, the walks of its functions, and what they compute in plain. -/
import Derived.Test.YtnbpdjjcilhjoaaDoorPd
set_option linter.unusedVariables false
set_option linter.unusedSimpArgs false
set_option maxRecDepth 4000
namespace Go.Vm
open Go
theorem sel_id {α:Type} (b:Bool) (x:α):sel b x x=x:=by cases b <;> rfl
theorem three_le {a b c:Nat} (h:a≤20000) (h':b≤20000) (h'':c≤20000):a + b + c≤1000000:=by omega
theorem len_half (p:List Int) (o:Nat) (h:o + 32≤64):(part1 (FD36w64 p) 64 o 32).length=32:=by
 rw [part1_eq (lenD36w64 p),List.length_take,List.length_drop,lenD36w64]
 omega
noncomputable def FT42 (p0:List Int) (p1:List Int):List Int :=
 (F19 p0 p1)
noncomputable def ST42:List AV→Option (Prop × Ret)
 | [.ints .i64 16 p0,.ints .i64 16 p1] => some (True,⟨.ints .i64 16 (FT42 p0 p1),[]⟩)
 | _ => none
noncomputable def BT42:Bs:={ P:=Go.Proofs.Tryd.prog,G:=gD,tab:=tabOf [(69,⟨[.val,.val],0,S19⟩)],n:=8 }
theorem BT42.ok:BT42.Ok:=⟨tabOk (P:=Go.Proofs.Tryd.prog) (G:=gD) (l:=[(69,⟨[.val,.val],0,S19⟩)]) (And.intro K19 True.intro),mixed⟩
theorem KT42:Known Go.Proofs.Tryd.prog gD 42 ⟨[.val,.val],0,ST42⟩:=by
 refine Known.walk (B:=BT42) (fn:=Go.Proofs.Tryd.f42) BT42.ok (by kernel_rfl) rfl (by kernel_rfl) (by kernel_rfl) (by decide) ?_ ?_
 ·intro vs C r h
  simp only at h
  unfold ST42 at h
  split at h
  ·cases h; rfl
  ·cases h
 ·intro E args C r h hC hlen
  simp only at h
  unfold ST42 at h
  split at h
  rotate_left
  ·cases h
  rename_i p0 p1
  cases h
  simp only [lens] at hlen
  refine ⟨show 2≤8 from by decide,?_⟩
  refine Tri.sub (Sub.of_eq (show _=([(0,.ints .i64 16 p0),(1,.ints .i64 16 p1)],[]) from rfl)) ?_
  refine sr [] none [4,3,2] [32,16,0] (TT∧(TT∧(TT∧True)))
    ([(4,qp 32 0),(3,qp 16 0),(2,qp 0 0)],[(32,.ints .i64 16 [0,0,0,0,0,0,0,0,0,0,0,0,0,0,0,0]),(16,.ints .i64 16 p1),(0,.ints .i64 16 p0)])
    48 (⟨tt,⟨tt,⟨tt,trivial⟩⟩⟩) ?_
  refine sr [] none [4] [32] (TT∧(TT∧((TT∧True)∧(((True∧(16=16))∧True)∧True))))
    ([(4,qp 32 0)],[(32,.ints .i64 16 (F19 p0 p1))])
    112 (⟨tt,⟨tt,⟨⟨tt,trivial⟩,⟨⟨⟨trivial,(rfl)⟩,trivial⟩,trivial⟩⟩⟩⟩) ?_
  refine Tri.ret ?_
  exact endP.ret [] TT (by kernel_rfl) (by kernel_rfl) (by kernel_rfl) tt
noncomputable def FT43 (p0:Int):List Int :=
 (F31 p0)
noncomputable def ST43:List AV→Option (Prop × Ret)
 | [.sc (.i .i64 p0)] => some (True,⟨.ints .i64 16 (FT43 p0),[]⟩)
 | _ => none
noncomputable def BT43:Bs:={ P:=Go.Proofs.Tryd.prog,G:=gD,tab:=tabOf [(70,⟨[.val],0,S31⟩)],n:=5 }
theorem BT43.ok:BT43.Ok:=⟨tabOk (P:=Go.Proofs.Tryd.prog) (G:=gD) (l:=[(70,⟨[.val],0,S31⟩)]) (And.intro K31 True.intro),mixed⟩
theorem KT43:Known Go.Proofs.Tryd.prog gD 43 ⟨[.val],0,ST43⟩:=by
 refine Known.walk (B:=BT43) (fn:=Go.Proofs.Tryd.f43) BT43.ok (by kernel_rfl) rfl (by kernel_rfl) (by kernel_rfl) (by decide) ?_ ?_
 ·intro vs C r h
  simp only at h
  unfold ST43 at h
  split at h
  ·cases h; rfl
  ·cases h
 ·intro E args C r h hC hlen
  simp only at h
  unfold ST43 at h
  split at h
  rotate_left
  ·cases h
  rename_i p0
  cases h
  simp only [lens] at hlen
  refine ⟨show 1≤5 from by decide,?_⟩
  refine Tri.sub (Sub.of_eq (show _=([(0,qi p0)],[]) from rfl)) ?_
  refine sr [] none [2,0] [0] (TT∧True)
    ([(2,qp 0 0),(0,qi p0)],[(0,.ints .i64 16 [0,0,0,0,0,0,0,0,0,0,0,0,0,0,0,0])])
    16 (⟨tt,trivial⟩) ?_
  refine sr [] none [2] [0] (TT∧((TT∧True)∧(((True∧(16=16))∧True)∧True)))
    ([(2,qp 0 0)],[(0,.ints .i64 16 (F31 p0))])
    64 (⟨tt,⟨⟨tt,trivial⟩,⟨⟨⟨trivial,(rfl)⟩,trivial⟩,trivial⟩⟩⟩) ?_
  refine Tri.ret ?_
  exact endP.ret [] TT (by kernel_rfl) (by kernel_rfl) (by kernel_rfl) tt
noncomputable def FT57 (p0:List Int) (p1:List Int):List Int :=
 (F21 p0 p1)
noncomputable def ST57:List AV→Option (Prop × Ret)
 | [.ints .i64 16 p0,.ints .i64 16 p1] => some (True,⟨.ints .i64 16 (FT57 p0 p1),[]⟩)
 | _ => none
noncomputable def BT57:Bs:={ P:=Go.Proofs.Tryd.prog,G:=gD,tab:=tabOf [(77,⟨[.val,.val],0,S21⟩)],n:=8 }
theorem BT57.ok:BT57.Ok:=⟨tabOk (P:=Go.Proofs.Tryd.prog) (G:=gD) (l:=[(77,⟨[.val,.val],0,S21⟩)]) (And.intro K21 True.intro),mixed⟩
theorem KT57:Known Go.Proofs.Tryd.prog gD 57 ⟨[.val,.val],0,ST57⟩:=by
 refine Known.walk (B:=BT57) (fn:=Go.Proofs.Tryd.f57) BT57.ok (by kernel_rfl) rfl (by kernel_rfl) (by kernel_rfl) (by decide) ?_ ?_
 ·intro vs C r h
  simp only at h
  unfold ST57 at h
  split at h
  ·cases h; rfl
  ·cases h
 ·intro E args C r h hC hlen
  simp only at h
  unfold ST57 at h
  split at h
  rotate_left
  ·cases h
  rename_i p0 p1
  cases h
  simp only [lens] at hlen
  refine ⟨show 2≤8 from by decide,?_⟩
  refine Tri.sub (Sub.of_eq (show _=([(0,.ints .i64 16 p0),(1,.ints .i64 16 p1)],[]) from rfl)) ?_
  refine sr [] none [4,3,2] [32,16,0] (TT∧(TT∧(TT∧True)))
    ([(4,qp 32 0),(3,qp 16 0),(2,qp 0 0)],[(32,.ints .i64 16 [0,0,0,0,0,0,0,0,0,0,0,0,0,0,0,0]),(16,.ints .i64 16 p1),(0,.ints .i64 16 p0)])
    48 (⟨tt,⟨tt,⟨tt,trivial⟩⟩⟩) ?_
  refine sr [] none [4] [32] (TT∧(TT∧((TT∧True)∧(((True∧(16=16))∧True)∧True))))
    ([(4,qp 32 0)],[(32,.ints .i64 16 (F21 p0 p1))])
    112 (⟨tt,⟨tt,⟨⟨tt,trivial⟩,⟨⟨⟨trivial,(rfl)⟩,trivial⟩,trivial⟩⟩⟩⟩) ?_
  refine Tri.ret ?_
  exact endP.ret [] TT (by kernel_rfl) (by kernel_rfl) (by kernel_rfl) tt
noncomputable def FT68 (p0:List Int) (p1:List Int):List Int :=
 (F17 p0 p1)
noncomputable def ST68:List AV→Option (Prop × Ret)
 | [.ints .i64 16 p0,.ints .i64 16 p1] => some (True,⟨.ints .i64 16 (FT68 p0 p1),[]⟩)
 | _ => none
noncomputable def BT68:Bs:={ P:=Go.Proofs.Tryd.prog,G:=gD,tab:=tabOf [(80,⟨[.val,.val],0,S17⟩)],n:=8 }
theorem BT68.ok:BT68.Ok:=⟨tabOk (P:=Go.Proofs.Tryd.prog) (G:=gD) (l:=[(80,⟨[.val,.val],0,S17⟩)]) (And.intro K17 True.intro),mixed⟩
theorem KT68:Known Go.Proofs.Tryd.prog gD 68 ⟨[.val,.val],0,ST68⟩:=by
 refine Known.walk (B:=BT68) (fn:=Go.Proofs.Tryd.f68) BT68.ok (by kernel_rfl) rfl (by kernel_rfl) (by kernel_rfl) (by decide) ?_ ?_
 ·intro vs C r h
  simp only at h
  unfold ST68 at h
  split at h
  ·cases h; rfl
  ·cases h
 ·intro E args C r h hC hlen
  simp only at h
  unfold ST68 at h
  split at h
  rotate_left
  ·cases h
  rename_i p0 p1
  cases h
  simp only [lens] at hlen
  refine ⟨show 2≤8 from by decide,?_⟩
  refine Tri.sub (Sub.of_eq (show _=([(0,.ints .i64 16 p0),(1,.ints .i64 16 p1)],[]) from rfl)) ?_
  refine sr [] none [4,3,2] [32,16,0] (TT∧(TT∧(TT∧True)))
    ([(4,qp 32 0),(3,qp 16 0),(2,qp 0 0)],[(32,.ints .i64 16 [0,0,0,0,0,0,0,0,0,0,0,0,0,0,0,0]),(16,.ints .i64 16 p1),(0,.ints .i64 16 p0)])
    48 (⟨tt,⟨tt,⟨tt,trivial⟩⟩⟩) ?_
  refine sr [] none [4] [32] (TT∧(TT∧((TT∧True)∧(((True∧(16=16))∧True)∧True))))
    ([(4,qp 32 0)],[(32,.ints .i64 16 (F17 p0 p1))])
    112 (⟨tt,⟨tt,⟨⟨tt,trivial⟩,⟨⟨⟨trivial,(rfl)⟩,trivial⟩,trivial⟩⟩⟩⟩) ?_
  refine Tri.ret ?_
  exact endP.ret [] TT (by kernel_rfl) (by kernel_rfl) (by kernel_rfl) tt
noncomputable def FT45:List Int :=
 (FT42 (FT43 0) (FT57 (FT43 121665) (F28 (FT43 121666))))
noncomputable def ST45:List AV→Option (Prop × Ret)
 | [] => some (True,⟨.ints .i64 16 (FT45),[]⟩)
 | _ => none
noncomputable def BT45:Bs:={ P:=Go.Proofs.Tryd.prog,G:=gD,tab:=tabOf [(42,⟨[.val,.val],0,ST42⟩),(43,⟨[.val],0,ST43⟩),(55,⟨[.val],0,S28⟩),(57,⟨[.val,.val],0,ST57⟩)],n:=7 }
theorem BT45.ok:BT45.Ok:=⟨tabOk (P:=Go.Proofs.Tryd.prog) (G:=gD) (l:=[(42,⟨[.val,.val],0,ST42⟩),(43,⟨[.val],0,ST43⟩),(55,⟨[.val],0,S28⟩),(57,⟨[.val,.val],0,ST57⟩)]) (And.intro KT42 (And.intro KT43 (And.intro K28 (And.intro KT57 True.intro)))),mixed⟩
theorem KT45:Known Go.Proofs.Tryd.prog gD 45 ⟨[],0,ST45⟩:=by
 refine Known.walk (B:=BT45) (fn:=Go.Proofs.Tryd.f45) BT45.ok (by kernel_rfl) rfl (by kernel_rfl) (by kernel_rfl) (by decide) ?_ ?_
 ·intro vs C r h
  simp only at h
  unfold ST45 at h
  split at h
  ·cases h; rfl
  ·cases h
 ·intro E args C r h hC hlen
  simp only at h
  unfold ST45 at h
  split at h
  rotate_left
  ·cases h
  skip
  cases h
  simp only [lens] at hlen
  refine ⟨show 0≤7 from by decide,?_⟩
  refine Tri.sub (Sub.of_eq (show _=([],[]) from rfl)) ?_
  refine sr [] none [0] [0] (TT∧True)
    ([(0,qp 0 0)],[(0,.ints .i64 16 [0,0,0,0,0,0,0,0,0,0,0,0,0,0,0,0])])
    16 (⟨tt,trivial⟩) ?_
  refine sr [] none [0] [0] ((TT∧True)∧((TT∧True)∧((TT∧True)∧((TT∧True)∧((TT∧True)∧((TT∧True)∧(((True∧(16=16))∧True)∧True)))))))
    ([(0,qp 0 0)],[(0,.ints .i64 16 (FT42 (FT43 0) (FT57 (FT43 121665) (F28 (FT43 121666)))))])
    128 (⟨⟨tt,trivial⟩,⟨⟨tt,trivial⟩,⟨⟨tt,trivial⟩,⟨⟨tt,trivial⟩,⟨⟨tt,trivial⟩,⟨⟨tt,trivial⟩,⟨⟨⟨trivial,(rfl)⟩,trivial⟩,trivial⟩⟩⟩⟩⟩⟩⟩) ?_
  refine Tri.ret ?_
  exact endP.ret [] TT (by kernel_rfl) (by kernel_rfl) (by kernel_rfl) tt
noncomputable def FT44 (p0:List Int) (p1:List Int) (p2:List Int):List Int :=
 splice (splice (splice [0,0,0,0,0,0,0,0,0,0,0,0,0,0,0,0,0,0,0,0,0,0,0,0,0,0,0,0,0,0,0,0,0,0,0,0,0,0,0,0,0,0,0,0,0,0,0,0] 0 (FT57 (FT57 (FT68 (FT57 ((p0.drop 0).take 16) ((p1.drop 16).take 16)) (FT57 ((p1.drop 0).take 16) ((p0.drop 16).take 16))) (FT57 ((p0.drop 32).take 16) ((p1.drop 32).take 16))) (FT42 (FT57 (FT57 ((p0.drop 32).take 16) ((p1.drop 32).take 16)) (FT57 ((p0.drop 32).take 16) ((p1.drop 32).take 16))) (FT57 p2 (FT57 (FT57 ((p0.drop 0).take 16) ((p1.drop 0).take 16)) (FT57 ((p0.drop 16).take 16) ((p1.drop 16).take 16))))))) 16 (FT57 (FT57 (FT68 (FT57 ((p0.drop 16).take 16) ((p1.drop 16).take 16)) (FT57 ((p0.drop 0).take 16) ((p1.drop 0).take 16))) (FT57 ((p0.drop 32).take 16) ((p1.drop 32).take 16))) (FT68 (FT57 (FT57 ((p0.drop 32).take 16) ((p1.drop 32).take 16)) (FT57 ((p0.drop 32).take 16) ((p1.drop 32).take 16))) (FT57 p2 (FT57 (FT57 ((p0.drop 0).take 16) ((p1.drop 0).take 16)) (FT57 ((p0.drop 16).take 16) ((p1.drop 16).take 16))))))) 32 (FT57 (FT68 (FT57 (FT57 ((p0.drop 32).take 16) ((p1.drop 32).take 16)) (FT57 ((p0.drop 32).take 16) ((p1.drop 32).take 16))) (FT57 p2 (FT57 (FT57 ((p0.drop 0).take 16) ((p1.drop 0).take 16)) (FT57 ((p0.drop 16).take 16) ((p1.drop 16).take 16))))) (FT42 (FT57 (FT57 ((p0.drop 32).take 16) ((p1.drop 32).take 16)) (FT57 ((p0.drop 32).take 16) ((p1.drop 32).take 16))) (FT57 p2 (FT57 (FT57 ((p0.drop 0).take 16) ((p1.drop 0).take 16)) (FT57 ((p0.drop 16).take 16) ((p1.drop 16).take 16))))))
noncomputable def ST44:List AV→Option (Prop × Ret)
 | [.ints .i64 48 p0,.ints .i64 48 p1,.ints .i64 16 p2] => some (True,⟨.ints .i64 48 (FT44 p0 p1 p2),[]⟩)
 | _ => none
noncomputable def BT44:Bs:={ P:=Go.Proofs.Tryd.prog,G:=gD,tab:=tabOf [(42,⟨[.val,.val],0,ST42⟩),(57,⟨[.val,.val],0,ST57⟩),(68,⟨[.val,.val],0,ST68⟩)],n:=71 }
theorem BT44.ok:BT44.Ok:=⟨tabOk (P:=Go.Proofs.Tryd.prog) (G:=gD) (l:=[(42,⟨[.val,.val],0,ST42⟩),(57,⟨[.val,.val],0,ST57⟩),(68,⟨[.val,.val],0,ST68⟩)]) (And.intro KT42 (And.intro KT57 (And.intro KT68 True.intro))),mixed⟩
theorem KT44:Known Go.Proofs.Tryd.prog gD 44 ⟨[.val,.val,.val],0,ST44⟩:=by
 refine Known.walk (B:=BT44) (fn:=Go.Proofs.Tryd.f44) BT44.ok (by kernel_rfl) rfl (by kernel_rfl) (by kernel_rfl) (by decide) ?_ ?_
 ·intro vs C r h
  simp only at h
  unfold ST44 at h
  split at h
  ·cases h; rfl
  ·cases h
 ·intro E args C r h hC hlen
  simp only at h
  unfold ST44 at h
  split at h
  rotate_left
  ·cases h
  rename_i p0 p1 p2
  cases h
  simp only [lens] at hlen
  refine ⟨show 3≤71 from by decide,?_⟩
  refine Tri.sub (Sub.of_eq (show _=([(0,.ints .i64 48 p0),(1,.ints .i64 48 p1),(2,.ints .i64 16 p2)],[]) from rfl)) ?_
  refine sr [] none [6,5,4,3] [48,32,16,0] (TT∧(TT∧(TT∧(TT∧True))))
    ([(6,qp 48 0),(5,qp 32 0),(4,qp 16 0),(3,qp 0 0)],[(48,.ints .i64 48 [0,0,0,0,0,0,0,0,0,0,0,0,0,0,0,0,0,0,0,0,0,0,0,0,0,0,0,0,0,0,0,0,0,0,0,0,0,0,0,0,0,0,0,0,0,0,0,0]),(32,.ints .i64 16 p2),(16,.ints .i64 48 p1),(0,.ints .i64 48 p0)])
    64 (⟨tt,⟨tt,⟨tt,⟨tt,trivial⟩⟩⟩⟩) ?_
  refine sr [] (some [0,1,0,4,15,0,32,0,128,511,0,1024,0,4096,16383,0,0,0,262143,524287,1048575]) [9,8,7,6,5,4,3] [336,320,304,48,32,16,0] (TT∧(((0 + 16≤48)∧True)∧(TT∧(((0 + 16≤48)∧True)∧((TT∧True)∧(TT∧(((16 + 16≤48)∧True)∧(TT∧(((16 + 16≤48)∧True)∧((TT∧True)∧(TT∧(((32 + 16≤48)∧True)∧(TT∧(((32 + 16≤48)∧True)∧((TT∧True)∧(TT∧(TT∧(TT∧(((True∧(16=16))∧True)∧(((True∧(16=16))∧True)∧(((True∧(16=16))∧True)∧True)))))))))))))))))))))
    ([(9,qp 336 0),(8,qp 320 0),(7,qp 304 0),(6,qp 48 0),(5,qp 32 0),(4,qp 16 0),(3,qp 0 0)],[(336,.ints .i64 16 (FT57 ((p0.drop 32).take 16) ((p1.drop 32).take 16))),(320,.ints .i64 16 (FT57 ((p0.drop 16).take 16) ((p1.drop 16).take 16))),(304,.ints .i64 16 (FT57 ((p0.drop 0).take 16) ((p1.drop 0).take 16))),(48,.ints .i64 48 [0,0,0,0,0,0,0,0,0,0,0,0,0,0,0,0,0,0,0,0,0,0,0,0,0,0,0,0,0,0,0,0,0,0,0,0,0,0,0,0,0,0,0,0,0,0,0,0]),(32,.ints .i64 16 p2),(16,.ints .i64 48 p1),(0,.ints .i64 48 p0)])
    400 (⟨tt,⟨⟨(by omega),trivial⟩,⟨tt,⟨⟨(by omega),trivial⟩,⟨⟨tt,trivial⟩,⟨tt,⟨⟨(by omega),trivial⟩,⟨tt,⟨⟨(by omega),trivial⟩,⟨⟨tt,trivial⟩,⟨tt,⟨⟨(by omega),trivial⟩,⟨tt,⟨⟨(by omega),trivial⟩,⟨⟨tt,trivial⟩,⟨tt,⟨tt,⟨tt,⟨⟨⟨trivial,(rfl)⟩,trivial⟩,⟨⟨⟨trivial,(rfl)⟩,trivial⟩,⟨⟨⟨trivial,(rfl)⟩,trivial⟩,trivial⟩⟩⟩⟩⟩⟩⟩⟩⟩⟩⟩⟩⟩⟩⟩⟩⟩⟩⟩⟩⟩) ?_
  refine sr [] (some [0,1,0,4,15,0,32,0,128,511,1023,0,4095]) [10,9,8,7,6,5] [576,336,320,304,48,32] (TT∧(((0 + 16≤48)∧True)∧(TT∧(((16 + 16≤48)∧True)∧((TT∧True)∧(TT∧(((0 + 16≤48)∧True)∧(TT∧(((16 + 16≤48)∧True)∧((TT∧True)∧((TT∧True)∧(TT∧(((True∧(16=16))∧True)∧True)))))))))))))
    ([(10,qp 576 0),(9,qp 336 0),(8,qp 320 0),(7,qp 304 0),(6,qp 48 0),(5,qp 32 0)],[(576,.ints .i64 16 (FT68 (FT57 ((p0.drop 0).take 16) ((p1.drop 16).take 16)) (FT57 ((p1.drop 0).take 16) ((p0.drop 16).take 16)))),(336,.ints .i64 16 (FT57 ((p0.drop 32).take 16) ((p1.drop 32).take 16))),(320,.ints .i64 16 (FT57 ((p0.drop 16).take 16) ((p1.drop 16).take 16))),(304,.ints .i64 16 (FT57 ((p0.drop 0).take 16) ((p1.drop 0).take 16))),(48,.ints .i64 48 [0,0,0,0,0,0,0,0,0,0,0,0,0,0,0,0,0,0,0,0,0,0,0,0,0,0,0,0,0,0,0,0,0,0,0,0,0,0,0,0,0,0,0,0,0,0,0,0]),(32,.ints .i64 16 p2)])
    608 (⟨tt,⟨⟨(by omega),trivial⟩,⟨tt,⟨⟨(by omega),trivial⟩,⟨⟨tt,trivial⟩,⟨tt,⟨⟨(by omega),trivial⟩,⟨tt,⟨⟨(by omega),trivial⟩,⟨⟨tt,trivial⟩,⟨⟨tt,trivial⟩,⟨tt,⟨⟨⟨trivial,(rfl)⟩,trivial⟩,trivial⟩⟩⟩⟩⟩⟩⟩⟩⟩⟩⟩⟩⟩) ?_
  refine sr [] (some [0,0,0,6,15,0,63]) [11,10,9,8,7,6] [688,576,336,320,304,48] (TT∧(TT∧(TT∧((TT∧True)∧((TT∧True)∧(TT∧(((True∧(16=16))∧True)∧True)))))))
    ([(11,qp 688 0),(10,qp 576 0),(9,qp 336 0),(8,qp 320 0),(7,qp 304 0),(6,qp 48 0)],[(688,.ints .i64 16 (FT57 p2 (FT57 (FT57 ((p0.drop 0).take 16) ((p1.drop 0).take 16)) (FT57 ((p0.drop 16).take 16) ((p1.drop 16).take 16))))),(576,.ints .i64 16 (FT68 (FT57 ((p0.drop 0).take 16) ((p1.drop 16).take 16)) (FT57 ((p1.drop 0).take 16) ((p0.drop 16).take 16)))),(336,.ints .i64 16 (FT57 ((p0.drop 32).take 16) ((p1.drop 32).take 16))),(320,.ints .i64 16 (FT57 ((p0.drop 16).take 16) ((p1.drop 16).take 16))),(304,.ints .i64 16 (FT57 ((p0.drop 0).take 16) ((p1.drop 0).take 16))),(48,.ints .i64 48 [0,0,0,0,0,0,0,0,0,0,0,0,0,0,0,0,0,0,0,0,0,0,0,0,0,0,0,0,0,0,0,0,0,0,0,0,0,0,0,0,0,0,0,0,0,0,0,0])])
    720 (⟨tt,⟨tt,⟨tt,⟨⟨tt,trivial⟩,⟨⟨tt,trivial⟩,⟨tt,⟨⟨⟨trivial,(rfl)⟩,trivial⟩,trivial⟩⟩⟩⟩⟩⟩⟩) ?_
  refine sr [] none [12,11,10,9,8,7,6] [768,688,576,336,320,304,48] (TT∧(TT∧((TT∧True)∧(TT∧(((True∧(16=16))∧True)∧True)))))
    ([(12,qp 768 0),(11,qp 688 0),(10,qp 576 0),(9,qp 336 0),(8,qp 320 0),(7,qp 304 0),(6,qp 48 0)],[(768,.ints .i64 16 (FT57 (FT57 ((p0.drop 32).take 16) ((p1.drop 32).take 16)) (FT57 ((p0.drop 32).take 16) ((p1.drop 32).take 16)))),(688,.ints .i64 16 (FT57 p2 (FT57 (FT57 ((p0.drop 0).take 16) ((p1.drop 0).take 16)) (FT57 ((p0.drop 16).take 16) ((p1.drop 16).take 16))))),(576,.ints .i64 16 (FT68 (FT57 ((p0.drop 0).take 16) ((p1.drop 16).take 16)) (FT57 ((p1.drop 0).take 16) ((p0.drop 16).take 16)))),(336,.ints .i64 16 (FT57 ((p0.drop 32).take 16) ((p1.drop 32).take 16))),(320,.ints .i64 16 (FT57 ((p0.drop 16).take 16) ((p1.drop 16).take 16))),(304,.ints .i64 16 (FT57 ((p0.drop 0).take 16) ((p1.drop 0).take 16))),(48,.ints .i64 48 [0,0,0,0,0,0,0,0,0,0,0,0,0,0,0,0,0,0,0,0,0,0,0,0,0,0,0,0,0,0,0,0,0,0,0,0,0,0,0,0,0,0,0,0,0,0,0,0])])
    800 (⟨tt,⟨tt,⟨⟨tt,trivial⟩,⟨tt,⟨⟨⟨trivial,(rfl)⟩,trivial⟩,trivial⟩⟩⟩⟩⟩) ?_
  refine sr [] (some [0,0,3,0,0,31,0,0,255,511]) [14,13,10,9,8,7,6] [912,896,576,336,320,304,48] (TT∧(TT∧((TT∧True)∧(TT∧(TT∧((TT∧True)∧(TT∧(TT∧(((True∧(16=16))∧True)∧(((True∧(16=16))∧True)∧True))))))))))
    ([(14,qp 912 0),(13,qp 896 0),(10,qp 576 0),(9,qp 336 0),(8,qp 320 0),(7,qp 304 0),(6,qp 48 0)],[(912,.ints .i64 16 (FT42 (FT57 (FT57 ((p0.drop 32).take 16) ((p1.drop 32).take 16)) (FT57 ((p0.drop 32).take 16) ((p1.drop 32).take 16))) (FT57 p2 (FT57 (FT57 ((p0.drop 0).take 16) ((p1.drop 0).take 16)) (FT57 ((p0.drop 16).take 16) ((p1.drop 16).take 16)))))),(896,.ints .i64 16 (FT68 (FT57 (FT57 ((p0.drop 32).take 16) ((p1.drop 32).take 16)) (FT57 ((p0.drop 32).take 16) ((p1.drop 32).take 16))) (FT57 p2 (FT57 (FT57 ((p0.drop 0).take 16) ((p1.drop 0).take 16)) (FT57 ((p0.drop 16).take 16) ((p1.drop 16).take 16)))))),(576,.ints .i64 16 (FT68 (FT57 ((p0.drop 0).take 16) ((p1.drop 16).take 16)) (FT57 ((p1.drop 0).take 16) ((p0.drop 16).take 16)))),(336,.ints .i64 16 (FT57 ((p0.drop 32).take 16) ((p1.drop 32).take 16))),(320,.ints .i64 16 (FT57 ((p0.drop 16).take 16) ((p1.drop 16).take 16))),(304,.ints .i64 16 (FT57 ((p0.drop 0).take 16) ((p1.drop 0).take 16))),(48,.ints .i64 48 [0,0,0,0,0,0,0,0,0,0,0,0,0,0,0,0,0,0,0,0,0,0,0,0,0,0,0,0,0,0,0,0,0,0,0,0,0,0,0,0,0,0,0,0,0,0,0,0])])
    960 (⟨tt,⟨tt,⟨⟨tt,trivial⟩,⟨tt,⟨tt,⟨⟨tt,trivial⟩,⟨tt,⟨tt,⟨⟨⟨trivial,(rfl)⟩,trivial⟩,⟨⟨⟨trivial,(rfl)⟩,trivial⟩,trivial⟩⟩⟩⟩⟩⟩⟩⟩⟩⟩) ?_
  refine sr [] (some [0,0,3,0,15,0,0,127,0,511,0,2047,0,0,16383,32767,65535]) [6] [48] (TT∧(TT∧((TT∧True)∧(TT∧((TT∧True)∧(TT∧(TT∧((TT∧True)∧(TT∧((TT∧True)∧(TT∧((TT∧True)∧(TT∧(TT∧((TT∧True)∧(((((0 + 16≤48)∧(16=16))∧(((16 + 16≤48)∧(16=16))∧(((32 + 16≤48)∧(16=16))∧True)))∧True)∧(((True∧(48=48))∧True)∧True)))))))))))))))))
    ([(6,qp 48 0)],[(48,.ints .i64 48 (splice (splice (splice [0,0,0,0,0,0,0,0,0,0,0,0,0,0,0,0,0,0,0,0,0,0,0,0,0,0,0,0,0,0,0,0,0,0,0,0,0,0,0,0,0,0,0,0,0,0,0,0] 0 (FT57 (FT57 (FT68 (FT57 ((p0.drop 0).take 16) ((p1.drop 16).take 16)) (FT57 ((p1.drop 0).take 16) ((p0.drop 16).take 16))) (FT57 ((p0.drop 32).take 16) ((p1.drop 32).take 16))) (FT42 (FT57 (FT57 ((p0.drop 32).take 16) ((p1.drop 32).take 16)) (FT57 ((p0.drop 32).take 16) ((p1.drop 32).take 16))) (FT57 p2 (FT57 (FT57 ((p0.drop 0).take 16) ((p1.drop 0).take 16)) (FT57 ((p0.drop 16).take 16) ((p1.drop 16).take 16))))))) 16 (FT57 (FT57 (FT68 (FT57 ((p0.drop 16).take 16) ((p1.drop 16).take 16)) (FT57 ((p0.drop 0).take 16) ((p1.drop 0).take 16))) (FT57 ((p0.drop 32).take 16) ((p1.drop 32).take 16))) (FT68 (FT57 (FT57 ((p0.drop 32).take 16) ((p1.drop 32).take 16)) (FT57 ((p0.drop 32).take 16) ((p1.drop 32).take 16))) (FT57 p2 (FT57 (FT57 ((p0.drop 0).take 16) ((p1.drop 0).take 16)) (FT57 ((p0.drop 16).take 16) ((p1.drop 16).take 16))))))) 32 (FT57 (FT68 (FT57 (FT57 ((p0.drop 32).take 16) ((p1.drop 32).take 16)) (FT57 ((p0.drop 32).take 16) ((p1.drop 32).take 16))) (FT57 p2 (FT57 (FT57 ((p0.drop 0).take 16) ((p1.drop 0).take 16)) (FT57 ((p0.drop 16).take 16) ((p1.drop 16).take 16))))) (FT42 (FT57 (FT57 ((p0.drop 32).take 16) ((p1.drop 32).take 16)) (FT57 ((p0.drop 32).take 16) ((p1.drop 32).take 16))) (FT57 p2 (FT57 (FT57 ((p0.drop 0).take 16) ((p1.drop 0).take 16)) (FT57 ((p0.drop 16).take 16) ((p1.drop 16).take 16))))))))])
    1232 (⟨tt,⟨tt,⟨⟨tt,trivial⟩,⟨tt,⟨⟨tt,trivial⟩,⟨tt,⟨tt,⟨⟨tt,trivial⟩,⟨tt,⟨⟨tt,trivial⟩,⟨tt,⟨⟨tt,trivial⟩,⟨tt,⟨tt,⟨⟨tt,trivial⟩,⟨⟨⟨⟨(by omega),(rfl)⟩,⟨⟨(by omega),(rfl)⟩,⟨⟨(by omega),(rfl)⟩,trivial⟩⟩⟩,trivial⟩,⟨⟨⟨trivial,(rfl)⟩,trivial⟩,trivial⟩⟩⟩⟩⟩⟩⟩⟩⟩⟩⟩⟩⟩⟩⟩⟩⟩) ?_
  refine Tri.ret ?_
  exact endP.ret [] TT (by kernel_rfl) (by kernel_rfl) (by kernel_rfl) tt
noncomputable def FT27l0 (p0:List Int) (k0:Nat) (z0:List Int × List Int):List Int × List Int :=
 ((sel (((iRem (iShr .u8 (p0.getD (k0 / 8) 0) ((k0 % 8:Nat):Int)) 2):Int) == 1) (FT44 z0.1 z0.2 (FT45)) z0.1),(FT44 z0.2 z0.2 (FT45)))
noncomputable def FT27 (p0:List Int) (p1:List Int):List Int :=
 (itr (FT27l0 p0) (8 * p0.length) (splice (splice [0,0,0,0,0,0,0,0,0,0,0,0,0,0,0,0,0,0,0,0,0,0,0,0,0,0,0,0,0,0,0,0,0,0,0,0,0,0,0,0,0,0,0,0,0,0,0,0] 16 (FT43 1)) 32 (FT43 1),p1)).1
noncomputable def ST27:List AV→Option (Prop × Ret)
 | [.sc (.ro .u8 p0),.ints .i64 48 p1] => some (p0.length≤1000000,⟨.ints .i64 48 (FT27 p0 p1),[]⟩)
 | _ => none
noncomputable def BT27:Bs:={ P:=Go.Proofs.Tryd.prog,G:=gD,tab:=tabOf [(43,⟨[.val],0,ST43⟩),(44,⟨[.val,.val,.val],0,ST44⟩),(45,⟨[],0,ST45⟩)],n:=38 }
theorem BT27.ok:BT27.Ok:=⟨tabOk (P:=Go.Proofs.Tryd.prog) (G:=gD) (l:=[(43,⟨[.val],0,ST43⟩),(44,⟨[.val,.val,.val],0,ST44⟩),(45,⟨[],0,ST45⟩)]) (And.intro KT43 (And.intro KT44 (And.intro KT45 True.intro))),mixed⟩
theorem KT27:Known Go.Proofs.Tryd.prog gD 27 ⟨[.ro .u8,.val],0,ST27⟩:=by
 refine Known.walk (B:=BT27) (fn:=Go.Proofs.Tryd.f27) BT27.ok (by kernel_rfl) rfl (by kernel_rfl) (by kernel_rfl) (by decide) ?_ ?_
 ·intro vs C r h
  simp only at h
  unfold ST27 at h
  split at h
  ·cases h; rfl
  ·cases h
 ·intro E args C r h hC hlen
  simp only at h
  unfold ST27 at h
  split at h
  rotate_left
  ·cases h
  rename_i p0 p1
  cases h
  simp only [lens] at hlen
  refine ⟨show 2≤38 from by decide,?_⟩
  refine Tri.sub (Sub.of_eq (show _=([(0,qr p0),(1,.ints .i64 48 p1)],[]) from rfl)) ?_
  refine sr [] none [4,3,0] [16,0] (TT∧(TT∧True))
    ([(4,qp 16 0),(3,qp 0 0),(0,qr p0)],[(16,.ints .i64 48 [0,0,0,0,0,0,0,0,0,0,0,0,0,0,0,0,0,0,0,0,0,0,0,0,0,0,0,0,0,0,0,0,0,0,0,0,0,0,0,0,0,0,0,0,0,0,0,0]),(0,.ints .i64 48 p1)])
    32 (⟨tt,⟨tt,trivial⟩⟩) ?_
  refine sr [] none [5,4,3,0] [48,16,0] ((TT∧True)∧(TT∧(((True∧(16=16))∧True)∧True)))
    ([(5,qp 48 0),(4,qp 16 0),(3,qp 0 0),(0,qr p0)],[(48,.ints .i64 16 (FT45)),(16,.ints .i64 48 [0,0,0,0,0,0,0,0,0,0,0,0,0,0,0,0,0,0,0,0,0,0,0,0,0,0,0,0,0,0,0,0,0,0,0,0,0,0,0,0,0,0,0,0,0,0,0,0]),(0,.ints .i64 48 p1)])
    80 (⟨⟨tt,trivial⟩,⟨tt,⟨⟨⟨trivial,(rfl)⟩,trivial⟩,trivial⟩⟩⟩) ?_
  refine sr [] none [6,5,4,3,0] [128,48,16,0] ((TT∧True)∧((TT∧True)∧(((((16 + 16≤48)∧(16=16))∧(((32 + 16≤48)∧(16=16))∧True))∧True)∧(TT∧(((True∧(48=48))∧True)∧True)))))
    ([(6,qp 128 0),(5,qp 48 0),(4,qp 16 0),(3,qp 0 0),(0,qr p0)],[(128,.ints .i64 48 (splice (splice [0,0,0,0,0,0,0,0,0,0,0,0,0,0,0,0,0,0,0,0,0,0,0,0,0,0,0,0,0,0,0,0,0,0,0,0,0,0,0,0,0,0,0,0,0,0,0,0] 16 (FT43 1)) 32 (FT43 1))),(48,.ints .i64 16 (FT45)),(16,.ints .i64 48 [0,0,0,0,0,0,0,0,0,0,0,0,0,0,0,0,0,0,0,0,0,0,0,0,0,0,0,0,0,0,0,0,0,0,0,0,0,0,0,0,0,0,0,0,0,0,0,0]),(0,.ints .i64 48 p1)])
    160 (⟨⟨tt,trivial⟩,⟨⟨tt,trivial⟩,⟨⟨⟨⟨(by omega),(rfl)⟩,⟨⟨(by omega),(rfl)⟩,trivial⟩⟩,trivial⟩,⟨tt,⟨⟨⟨trivial,(rfl)⟩,trivial⟩,trivial⟩⟩⟩⟩⟩) ?_
  refine Tri.seq ?_
  refine sr [] none [7,6,5,4,3,0] [128,48,16,0] (TT∧True)
    ([(7,qi 0),(6,qp 128 0),(5,qp 48 0),(4,qp 16 0),(3,qp 0 0),(0,qr p0)],[(128,.ints .i64 48 (splice (splice [0,0,0,0,0,0,0,0,0,0,0,0,0,0,0,0,0,0,0,0,0,0,0,0,0,0,0,0,0,0,0,0,0,0,0,0,0,0,0,0,0,0,0,0,0,0,0,0] 16 (FT43 1)) 32 (FT43 1))),(48,.ints .i64 16 (FT45)),(16,.ints .i64 48 [0,0,0,0,0,0,0,0,0,0,0,0,0,0,0,0,0,0,0,0,0,0,0,0,0,0,0,0,0,0,0,0,0,0,0,0,0,0,0,0,0,0,0,0,0,0,0,0]),(0,.ints .i64 48 p1)])
    176 (⟨tt,trivial⟩) ?_
  refine Tri.block ?_
  refine Tri.count 176 (8 * p0.length) (FT27l0 p0) (splice (splice [0,0,0,0,0,0,0,0,0,0,0,0,0,0,0,0,0,0,0,0,0,0,0,0,0,0,0,0,0,0,0,0,0,0,0,0,0,0,0,0,0,0,0,0,0,0,0,0] 16 (FT43 1)) 32 (FT43 1),p1) (fun k0 z0 => True) (fun k0 z0 => ([(7,qi (k0:Int)),(6,qp 128 0),(5,qp 48 0),(4,qp 16 0),(3,qp 0 0),(0,qr p0)],[(128,.ints .i64 48 z0.1),(48,.ints .i64 16 (FT45)),(16,.ints .i64 48 [0,0,0,0,0,0,0,0,0,0,0,0,0,0,0,0,0,0,0,0,0,0,0,0,0,0,0,0,0,0,0,0,0,0,0,0,0,0,0,0,0,0,0,0,0,0,0,0]),(0,.ints .i64 48 z0.2)])) trivial (Sub.of_eq (by kernel_rfl)) ?_
  intro k0 z0 hk0 hz0 hJ0
  refine Tri.seq ?_
  refine sr [(15,.i .i64 ((8 * p0.length:Nat):Int))] none [16,7,6,5,4,3,0] [128,48,16,0] (TT∧(TT∧(TT∧((True∧((iMul .i64 8 (p0.length:Int))=((8 * p0.length:Nat):Int)))∧(TT∧True)))))
    ([(16,.sc (.b (decide (((k0:Int):Int) < ((8 * p0.length:Nat):Int))))),(7,qi (k0:Int)),(6,qp 128 0),(5,qp 48 0),(4,qp 16 0),(3,qp 0 0),(0,qr p0)],[(128,.ints .i64 48 z0.1),(48,.ints .i64 16 (FT45)),(16,.ints .i64 48 [0,0,0,0,0,0,0,0,0,0,0,0,0,0,0,0,0,0,0,0,0,0,0,0,0,0,0,0,0,0,0,0,0,0,0,0,0,0,0,0,0,0,0,0,0,0,0,0]),(0,.ints .i64 48 z0.2)])
    256 (⟨tt,⟨tt,⟨tt,⟨⟨trivial,(iMul_nat (a:=8) (b:=p0.length) (by omega))⟩,⟨tt,trivial⟩⟩⟩⟩⟩) ?_
  refine Tri.cond (x:=(decide (((k0:Int):Int) < ((8 * p0.length:Nat):Int)))) (by kernel_rfl) (fun h1 => ?_) (fun h1 => ?_)
  ·
   have h1':=of_decide_eq_true h1
   refine Tri.skip ?_
   change Tri _ _ _ _ _ _
   refine Tri.seq ?_
   refine Tri.block ?_
   refine Tri.seq ?_
   refine sr [(21,.i .i64 ((k0 / 8:Nat):Int)),(25,.i .i64 ((k0 % 8:Nat):Int))] none [28,7,6,5,4,3,0] [128,48,16,0] (TT∧(TT∧(((8 ≠ (0:Int))∧((iQuo .i64 (k0:Int) 8)=((k0 / 8:Nat):Int)))∧((((0:Int)≤((k0 / 8:Nat):Int)∧((k0 / 8:Nat):Int) < (p0.length:Int))∧True)∧(((k0 / 8 < p0.length)∧True)∧(TT∧(((8 ≠ (0:Int))∧((iRem (k0:Int) 8)=((k0 % 8:Nat):Int)))∧((((0:Int)≤((k0 % 8:Nat):Int))∧True)∧(((2 ≠ (0:Int))∧True)∧(TT∧True))))))))))
     ([(28,.sc (.b (((iRem (iShr .u8 (p0.getD (k0 / 8) 0) ((k0 % 8:Nat):Int)) 2):Int) == 1))),(7,qi (k0:Int)),(6,qp 128 0),(5,qp 48 0),(4,qp 16 0),(3,qp 0 0),(0,qr p0)],[(128,.ints .i64 48 z0.1),(48,.ints .i64 16 (FT45)),(16,.ints .i64 48 [0,0,0,0,0,0,0,0,0,0,0,0,0,0,0,0,0,0,0,0,0,0,0,0,0,0,0,0,0,0,0,0,0,0,0,0,0,0,0,0,0,0,0,0,0,0,0,0]),(0,.ints .i64 48 z0.2)])
     416 (⟨tt,⟨tt,⟨⟨(by omega),(iQuo_nat (a:=k0) (b:=8) (by omega))⟩,⟨⟨(by omega),trivial⟩,⟨⟨(by omega),trivial⟩,⟨tt,⟨⟨(by omega),(iRem_nat (a:=k0) (b:=8))⟩,⟨⟨(by omega),trivial⟩,⟨⟨(by omega),trivial⟩,⟨tt,trivial⟩⟩⟩⟩⟩⟩⟩⟩⟩⟩) ?_
   refine Tri.join (x:=(((iRem (iShr .u8 (p0.getD (k0 / 8) 0) ((k0 % 8:Nat):Int)) 2):Int) == 1)) (fun bb => ([(7,qi (k0:Int)),(6,qp 128 0),(5,qp 48 0),(4,qp 16 0),(3,qp 0 0),(0,qr p0)],[(128,.ints .i64 48 (sel bb (FT44 z0.1 z0.2 (FT45)) z0.1)),(48,.ints .i64 16 (FT45)),(16,.ints .i64 48 [0,0,0,0,0,0,0,0,0,0,0,0,0,0,0,0,0,0,0,0,0,0,0,0,0,0,0,0,0,0,0,0,0,0,0,0,0,0,0,0,0,0,0,0,0,0,0,0]),(0,.ints .i64 48 z0.2)])) 496 (by kernel_rfl) (fun h2 => ?_) (fun h2 => ?_) ?_
   ·
    have h2':=eq_true_i h2
    refine rr [] none [7,6,5,4,3,0] [128,48,16,0] (TT∧(TT∧(TT∧((TT∧True)∧(((True∧(48=48))∧True)∧True)))))
      ([(7,qi (k0:Int)),(6,qp 128 0),(5,qp 48 0),(4,qp 16 0),(3,qp 0 0),(0,qr p0)],[(128,.ints .i64 48 (FT44 z0.1 z0.2 (FT45))),(48,.ints .i64 16 (FT45)),(16,.ints .i64 48 [0,0,0,0,0,0,0,0,0,0,0,0,0,0,0,0,0,0,0,0,0,0,0,0,0,0,0,0,0,0,0,0,0,0,0,0,0,0,0,0,0,0,0,0,0,0,0,0]),(0,.ints .i64 48 z0.2)])
      496 (⟨tt,⟨tt,⟨tt,⟨⟨tt,trivial⟩,⟨⟨⟨trivial,(rfl)⟩,trivial⟩,trivial⟩⟩⟩⟩⟩) ?_
    exact (Sub.ren (ns:=[(128,128),(48,48),(16,16),(0,0)]) (kf:=[7,6,5,4,3,0]) (s':=([(7,qi (k0:Int)),(6,qp 128 0),(5,qp 48 0),(4,qp 16 0),(3,qp 0 0),(0,qr p0)],[(128,.ints .i64 48 (FT44 z0.1 z0.2 (FT45))),(48,.ints .i64 16 (FT45)),(16,.ints .i64 48 [0,0,0,0,0,0,0,0,0,0,0,0,0,0,0,0,0,0,0,0,0,0,0,0,0,0,0,0,0,0,0,0,0,0,0,0,0,0,0,0,0,0,0,0,0,0,0,0]),(0,.ints .i64 48 z0.2)])) (by kernel_rfl) (by kernel_rfl)).trans (Sub.of_eq (by simp only [sel_true,sel_false]))
   ·
    have h2':=eq_false_i h2
    refine Tri.skip ?_
    exact (Sub.ren (ns:=[(128,128),(48,48),(16,16),(0,0)]) (kf:=[7,6,5,4,3,0]) (s':=([(7,qi (k0:Int)),(6,qp 128 0),(5,qp 48 0),(4,qp 16 0),(3,qp 0 0),(0,qr p0)],[(128,.ints .i64 48 z0.1),(48,.ints .i64 16 (FT45)),(16,.ints .i64 48 [0,0,0,0,0,0,0,0,0,0,0,0,0,0,0,0,0,0,0,0,0,0,0,0,0,0,0,0,0,0,0,0,0,0,0,0,0,0,0,0,0,0,0,0,0,0,0,0]),(0,.ints .i64 48 z0.2)])) (by kernel_rfl) (by kernel_rfl)).trans (Sub.of_eq (by simp only [sel_true,sel_false]))
   ·
    change Tri _ _ _ _ _ _
    refine rr [] none [7,6,5,4,3,0] [0,128,48,16] (TT∧(TT∧(TT∧((TT∧True)∧(((True∧(48=48))∧True)∧True)))))
      ([(7,qi (k0:Int)),(6,qp 128 0),(5,qp 48 0),(4,qp 16 0),(3,qp 0 0),(0,qr p0)],[(0,.ints .i64 48 (FT44 z0.2 z0.2 (FT45))),(128,.ints .i64 48 (sel (((iRem (iShr .u8 (p0.getD (k0 / 8) 0) ((k0 % 8:Nat):Int)) 2):Int) == 1) (FT44 z0.1 z0.2 (FT45)) z0.1)),(48,.ints .i64 16 (FT45)),(16,.ints .i64 48 [0,0,0,0,0,0,0,0,0,0,0,0,0,0,0,0,0,0,0,0,0,0,0,0,0,0,0,0,0,0,0,0,0,0,0,0,0,0,0,0,0,0,0,0,0,0,0,0])])
      576 (⟨tt,⟨tt,⟨tt,⟨⟨tt,trivial⟩,⟨⟨⟨trivial,(rfl)⟩,trivial⟩,trivial⟩⟩⟩⟩⟩) ?_
    change Tri _ _ _ _ _ _
    refine rr [(18,.i .i64 ((k0 + 1:Nat):Int))] none [7,6,5,4,3,0] [0,128,48,16] (TT∧((True∧((iAdd .i64 (k0:Int) 1)=((k0 + 1:Nat):Int)))∧(TT∧True)))
      ([(7,qi ((k0 + 1:Nat):Int)),(6,qp 128 0),(5,qp 48 0),(4,qp 16 0),(3,qp 0 0),(0,qr p0)],[(0,.ints .i64 48 (FT44 z0.2 z0.2 (FT45))),(128,.ints .i64 48 (sel (((iRem (iShr .u8 (p0.getD (k0 / 8) 0) ((k0 % 8:Nat):Int)) 2):Int) == 1) (FT44 z0.1 z0.2 (FT45)) z0.1)),(48,.ints .i64 16 (FT45)),(16,.ints .i64 48 [0,0,0,0,0,0,0,0,0,0,0,0,0,0,0,0,0,0,0,0,0,0,0,0,0,0,0,0,0,0,0,0,0,0,0,0,0,0,0,0,0,0,0,0,0,0,0,0])])
      624 (⟨tt,⟨⟨trivial,(iAdd_nat (a:=k0) (b:=1) (by omega))⟩,⟨tt,trivial⟩⟩⟩) ?_
    repeat (refine blkP_normal ?_)
    refine countP_normal (by omega) trivial ?_
    exact Sub.ren (ns:=[(128,128),(48,48),(16,16),(0,0)]) (kf:=[7,6,5,4,3,0]) (by kernel_rfl) (by kernel_rfl)
  ·
   have h1':=of_decide_eq_false h1
   refine Tri.exit ?_
   have hend0:k0=(8 * p0.length):=by (have:=of_decide_eq_false h1; omega)
   subst hend0; subst hz0
   change Tri _ _ _ _ _ _
   refine sr [] none [4] [16] (TT∧(((True∧(48=48))∧True)∧True))
     ([(4,qp 16 0)],[(16,.ints .i64 48 ((itr (FT27l0 p0) (8 * p0.length) (splice (splice [0,0,0,0,0,0,0,0,0,0,0,0,0,0,0,0,0,0,0,0,0,0,0,0,0,0,0,0,0,0,0,0,0,0,0,0,0,0,0,0,0,0,0,0,0,0,0,0] 16 (FT43 1)) 32 (FT43 1),p1)).1))])
     288 (⟨tt,⟨⟨⟨trivial,(rfl)⟩,trivial⟩,trivial⟩⟩) ?_
   refine Tri.ret ?_
   exact endP.ret [] TT (by kernel_rfl) (by kernel_rfl) (by kernel_rfl) tt
noncomputable def FT26 (p0:List Int):List Int :=
 (sel (((iRem ((FT57 ((p0.drop 0).take 16) (F28 ((p0.drop 32).take 16))).getD 0 0) 2):Int) == 1) ((F49 (FT57 ((p0.drop 16).take 16) (F28 ((p0.drop 32).take 16)))).set 31 (iAdd .u8 ((F49 (FT57 ((p0.drop 16).take 16) (F28 ((p0.drop 32).take 16)))).getD 31 0) 128)) (F49 (FT57 ((p0.drop 16).take 16) (F28 ((p0.drop 32).take 16)))))
noncomputable def ST26:List AV→Option (Prop × Ret)
 | [.ints .i64 48 p0] => some (True,⟨.sc (.sl 0 0 32 1 none),[.ints .u8 32 (FT26 p0)]⟩)
 | _ => none
noncomputable def BT26:Bs:={ P:=Go.Proofs.Tryd.prog,G:=gD,tab:=tabOf [(55,⟨[.val],0,S28⟩),(56,⟨[.val],1,S49⟩),(57,⟨[.val,.val],0,ST57⟩)],n:=26 }
theorem BT26.ok:BT26.Ok:=⟨tabOk (P:=Go.Proofs.Tryd.prog) (G:=gD) (l:=[(55,⟨[.val],0,S28⟩),(56,⟨[.val],1,S49⟩),(57,⟨[.val,.val],0,ST57⟩)]) (And.intro K28 (And.intro K49 (And.intro KT57 True.intro))),mixed⟩
theorem KT26:Known Go.Proofs.Tryd.prog gD 26 ⟨[.val],1,ST26⟩:=by
 refine Known.walk (B:=BT26) (fn:=Go.Proofs.Tryd.f26) BT26.ok (by kernel_rfl) rfl (by kernel_rfl) (by kernel_rfl) (by decide) ?_ ?_
 ·intro vs C r h
  simp only at h
  unfold ST26 at h
  split at h
  ·cases h; rfl
  ·cases h
 ·intro E args C r h hC hlen
  simp only at h
  unfold ST26 at h
  split at h
  rotate_left
  ·cases h
  rename_i p0
  cases h
  simp only [lens] at hlen
  refine ⟨show 1≤26 from by decide,?_⟩
  refine Tri.sub (Sub.of_eq (show _=([(0,.ints .i64 48 p0)],[]) from rfl)) ?_
  refine sr [] none [1] [0] (TT∧(TT∧True))
    ([(1,qp 0 0)],[(0,.ints .i64 48 p0)])
    32 (⟨tt,⟨tt,trivial⟩⟩) ?_
  refine sr [] none [3,1] [80,0] (TT∧(((32 + 16≤48)∧True)∧((TT∧True)∧(TT∧(((True∧(16=16))∧True)∧True)))))
    ([(3,qp 80 0),(1,qp 0 0)],[(80,.ints .i64 16 (F28 ((p0.drop 32).take 16))),(0,.ints .i64 48 p0)])
    112 (⟨tt,⟨⟨(by omega),trivial⟩,⟨⟨tt,trivial⟩,⟨tt,⟨⟨⟨trivial,(rfl)⟩,trivial⟩,trivial⟩⟩⟩⟩⟩) ?_
  refine sr [] none [4,3,1] [176,80,0] (TT∧(((16 + 16≤48)∧True)∧(TT∧((TT∧True)∧((TT∧True)∧(TT∧True))))))
    ([(4,.sc (.sl 176 0 32 1 none)),(3,qp 80 0),(1,qp 0 0)],[(176,.ints .u8 32 (F49 (FT57 ((p0.drop 16).take 16) (F28 ((p0.drop 32).take 16))))),(80,.ints .i64 16 (F28 ((p0.drop 32).take 16))),(0,.ints .i64 48 p0)])
    208 (⟨tt,⟨⟨(by omega),trivial⟩,⟨tt,⟨⟨tt,trivial⟩,⟨⟨tt,trivial⟩,⟨tt,trivial⟩⟩⟩⟩⟩⟩) ?_
  refine Tri.seq ?_
  refine sr [] none [19,4] [176] (TT∧(((0 + 16≤48)∧True)∧(TT∧((TT∧True)∧(((((0:Int)≤0∧0 < ((16:Nat):Int))∧(0 < 16))∧True)∧(((2 ≠ (0:Int))∧True)∧(TT∧True)))))))
    ([(19,.sc (.b (((iRem ((FT57 ((p0.drop 0).take 16) (F28 ((p0.drop 32).take 16))).getD 0 0) 2):Int) == 1))),(4,.sc (.sl 176 0 32 1 none))],[(176,.ints .u8 32 (F49 (FT57 ((p0.drop 16).take 16) (F28 ((p0.drop 32).take 16)))))])
    320 (⟨tt,⟨⟨(by omega),trivial⟩,⟨tt,⟨⟨tt,trivial⟩,⟨⟨⟨(by omega),(by omega)⟩,trivial⟩,⟨⟨(by omega),trivial⟩,⟨tt,trivial⟩⟩⟩⟩⟩⟩⟩) ?_
  refine Tri.join (x:=(((iRem ((FT57 ((p0.drop 0).take 16) (F28 ((p0.drop 32).take 16))).getD 0 0) 2):Int) == 1)) (fun bb => ([(4,.sc (.sl 176 0 32 1 none))],[(176,.ints .u8 32 (sel bb ((F49 (FT57 ((p0.drop 16).take 16) (F28 ((p0.drop 32).take 16)))).set 31 (iAdd .u8 ((F49 (FT57 ((p0.drop 16).take 16) (F28 ((p0.drop 32).take 16)))).getD 31 0) 128)) (F49 (FT57 ((p0.drop 16).take 16) (F28 ((p0.drop 32).take 16))))))])) 416 (by kernel_rfl) (fun h1 => ?_) (fun h1 => ?_) ?_
  ·
   have h1':=eq_true_i h1
   refine rr [] none [4] [176] (TT∧((((0:Int)≤31∧31 < ((32:Nat):Int))∧True)∧(((31 < 32)∧True)∧(TT∧((((0:Int)≤31∧31 < ((32:Nat):Int))∧True)∧((((31 < 32)∧(1=1))∧True)∧True))))))
     ([(4,.sc (.sl 176 0 32 1 none))],[(176,.ints .u8 32 ((F49 (FT57 ((p0.drop 16).take 16) (F28 ((p0.drop 32).take 16)))).set 31 (iAdd .u8 ((F49 (FT57 ((p0.drop 16).take 16) (F28 ((p0.drop 32).take 16)))).getD 31 0) 128)))])
     416 (⟨tt,⟨⟨(by omega),trivial⟩,⟨⟨(by omega),trivial⟩,⟨tt,⟨⟨(by omega),trivial⟩,⟨⟨⟨(by omega),(rfl)⟩,trivial⟩,trivial⟩⟩⟩⟩⟩⟩) ?_
   exact (Sub.ren (ns:=[(176,176)]) (kf:=[4]) (s':=([(4,.sc (.sl 176 0 32 1 none))],[(176,.ints .u8 32 ((F49 (FT57 ((p0.drop 16).take 16) (F28 ((p0.drop 32).take 16)))).set 31 (iAdd .u8 ((F49 (FT57 ((p0.drop 16).take 16) (F28 ((p0.drop 32).take 16)))).getD 31 0) 128)))])) (by kernel_rfl) (by kernel_rfl)).trans (Sub.of_eq (by simp only [sel_true,sel_false]))
  ·
   have h1':=eq_false_i h1
   refine Tri.skip ?_
   exact (Sub.ren (ns:=[(176,176)]) (kf:=[4]) (s':=([(4,.sc (.sl 176 0 32 1 none))],[(176,.ints .u8 32 (F49 (FT57 ((p0.drop 16).take 16) (F28 ((p0.drop 32).take 16)))))])) (by kernel_rfl) (by kernel_rfl)).trans (Sub.of_eq (by simp only [sel_true,sel_false]))
  ·
   change Tri _ _ _ _ _ _
   refine sr [] none [2] [176] (TT∧(TT∧True))
     ([(2,.sc (.sl 176 0 32 1 none))],[(176,.ints .u8 32 (sel (((iRem ((FT57 ((p0.drop 0).take 16) (F28 ((p0.drop 32).take 16))).getD 0 0) 2):Int) == 1) ((F49 (FT57 ((p0.drop 16).take 16) (F28 ((p0.drop 32).take 16)))).set 31 (iAdd .u8 ((F49 (FT57 ((p0.drop 16).take 16) (F28 ((p0.drop 32).take 16)))).getD 31 0) 128)) (F49 (FT57 ((p0.drop 16).take 16) (F28 ((p0.drop 32).take 16))))))])
     448 (⟨tt,⟨tt,trivial⟩⟩) ?_
   refine Tri.ret ?_
   exact endP.ret [(176,0)] TT (by kernel_rfl) (by kernel_rfl) (by kernel_rfl) tt
theorem lenT26 (p0:List Int):(FT26 p0).length=32:=by
 unfold FT26
 cases (((iRem ((FT57 ((p0.drop 0).take 16) (F28 ((p0.drop 32).take 16))).getD 0 0) 2):Int) == 1)
 ·rw [sel_false,lenb49]
 ·rw [sel_true,List.length_set,lenb49]
noncomputable def FT40 (p0:List Int):List Int :=
 (sel (((p0.length:Int):Int) != 32) [0,0,0,0,0,0,0,0,0,0,0,0,0,0,0,0,0,0,0,0,0,0,0,0,0,0,0,0,0,0,0,0,0,0,0,0,0,0,0,0,0,0,0,0,0,0,0,0] (sel (!(strEq (bytesOf (((sel (decide ((p0.getD 31 0:Int) ≥ 128)) ((F49 (F24 p0)).set 31 (iAdd .u8 ((F49 (F24 p0)).getD 31 0) 128)) (F49 (F24 p0))).drop 0).take 32)) (bytesOf p0))) [0,0,0,0,0,0,0,0,0,0,0,0,0,0,0,0,0,0,0,0,0,0,0,0,0,0,0,0,0,0,0,0,0,0,0,0,0,0,0,0,0,0,0,0,0,0,0,0] (sel (!(F35_1 (FT57 (FT42 (FT57 (F24 p0) (F24 p0)) (FT43 1)) (F28 (FT68 (FT57 (FT45) (FT57 (F24 p0) (F24 p0))) (FT43 1)))))) [0,0,0,0,0,0,0,0,0,0,0,0,0,0,0,0,0,0,0,0,0,0,0,0,0,0,0,0,0,0,0,0,0,0,0,0,0,0,0,0,0,0,0,0,0,0,0,0] (sel (((F35 (FT57 (FT42 (FT57 (F24 p0) (F24 p0)) (FT43 1)) (F28 (FT68 (FT57 (FT45) (FT57 (F24 p0) (F24 p0))) (FT43 1))))):List Int) == (FT43 0)) (sel (decide ((p0.getD 31 0:Int) ≥ 128)) [0,0,0,0,0,0,0,0,0,0,0,0,0,0,0,0,0,0,0,0,0,0,0,0,0,0,0,0,0,0,0,0,0,0,0,0,0,0,0,0,0,0,0,0,0,0,0,0] (splice (splice (splice [0,0,0,0,0,0,0,0,0,0,0,0,0,0,0,0,0,0,0,0,0,0,0,0,0,0,0,0,0,0,0,0,0,0,0,0,0,0,0,0,0,0,0,0,0,0,0,0] 0 (sel (!((((iRem ((F35 (FT57 (FT42 (FT57 (F24 p0) (F24 p0)) (FT43 1)) (F28 (FT68 (FT57 (FT45) (FT57 (F24 p0) (F24 p0))) (FT43 1))))).getD 0 0) 2):Int) == 1) == (decide ((p0.getD 31 0:Int) ≥ 128)))) (FT42 (FT43 0) (F35 (FT57 (FT42 (FT57 (F24 p0) (F24 p0)) (FT43 1)) (F28 (FT68 (FT57 (FT45) (FT57 (F24 p0) (F24 p0))) (FT43 1)))))) (F35 (FT57 (FT42 (FT57 (F24 p0) (F24 p0)) (FT43 1)) (F28 (FT68 (FT57 (FT45) (FT57 (F24 p0) (F24 p0))) (FT43 1))))))) 16 (F24 p0)) 32 (FT43 1))) (splice (splice (splice [0,0,0,0,0,0,0,0,0,0,0,0,0,0,0,0,0,0,0,0,0,0,0,0,0,0,0,0,0,0,0,0,0,0,0,0,0,0,0,0,0,0,0,0,0,0,0,0] 0 (sel (!((((iRem ((F35 (FT57 (FT42 (FT57 (F24 p0) (F24 p0)) (FT43 1)) (F28 (FT68 (FT57 (FT45) (FT57 (F24 p0) (F24 p0))) (FT43 1))))).getD 0 0) 2):Int) == 1) == (decide ((p0.getD 31 0:Int) ≥ 128)))) (FT42 (FT43 0) (F35 (FT57 (FT42 (FT57 (F24 p0) (F24 p0)) (FT43 1)) (F28 (FT68 (FT57 (FT45) (FT57 (F24 p0) (F24 p0))) (FT43 1)))))) (F35 (FT57 (FT42 (FT57 (F24 p0) (F24 p0)) (FT43 1)) (F28 (FT68 (FT57 (FT45) (FT57 (F24 p0) (F24 p0))) (FT43 1))))))) 16 (F24 p0)) 32 (FT43 1))))))
noncomputable def FT40_1 (p0:List Int):Bool :=
 (sel (((p0.length:Int):Int) != 32) false (sel (!(strEq (bytesOf (((sel (decide ((p0.getD 31 0:Int) ≥ 128)) ((F49 (F24 p0)).set 31 (iAdd .u8 ((F49 (F24 p0)).getD 31 0) 128)) (F49 (F24 p0))).drop 0).take 32)) (bytesOf p0))) false (sel (!(F35_1 (FT57 (FT42 (FT57 (F24 p0) (F24 p0)) (FT43 1)) (F28 (FT68 (FT57 (FT45) (FT57 (F24 p0) (F24 p0))) (FT43 1)))))) false (sel (((F35 (FT57 (FT42 (FT57 (F24 p0) (F24 p0)) (FT43 1)) (F28 (FT68 (FT57 (FT45) (FT57 (F24 p0) (F24 p0))) (FT43 1))))):List Int) == (FT43 0)) (sel (decide ((p0.getD 31 0:Int) ≥ 128)) false true) true))))
noncomputable def ST40:List AV→Option (Prop × Ret)
 | [.sc (.ro .u8 p0)] => some (True,⟨.tup [.ints .i64 48 (FT40 p0),.sc (.b (FT40_1 p0))],[]⟩)
 | _ => none
noncomputable def BT40:Bs:={ P:=Go.Proofs.Tryd.prog,G:=gD,tab:=tabOf [(42,⟨[.val,.val],0,ST42⟩),(43,⟨[.val],0,ST43⟩),(45,⟨[],0,ST45⟩),(55,⟨[.val],0,S28⟩),(56,⟨[.val],1,S49⟩),(57,⟨[.val,.val],0,ST57⟩),(66,⟨[.ro .u8],0,S24⟩),(67,⟨[.val],0,S35⟩),(68,⟨[.val,.val],0,ST68⟩)],n:=75 }
theorem BT40.ok:BT40.Ok:=⟨tabOk (P:=Go.Proofs.Tryd.prog) (G:=gD) (l:=[(42,⟨[.val,.val],0,ST42⟩),(43,⟨[.val],0,ST43⟩),(45,⟨[],0,ST45⟩),(55,⟨[.val],0,S28⟩),(56,⟨[.val],1,S49⟩),(57,⟨[.val,.val],0,ST57⟩),(66,⟨[.ro .u8],0,S24⟩),(67,⟨[.val],0,S35⟩),(68,⟨[.val,.val],0,ST68⟩)]) (And.intro KT42 (And.intro KT43 (And.intro KT45 (And.intro K28 (And.intro K49 (And.intro KT57 (And.intro K24 (And.intro K35 (And.intro KT68 True.intro))))))))),mixed⟩
theorem KT40:Known Go.Proofs.Tryd.prog gD 40 ⟨[.ro .u8],0,ST40⟩:=by
 refine Known.walk (B:=BT40) (fn:=Go.Proofs.Tryd.f40) BT40.ok (by kernel_rfl) rfl (by kernel_rfl) (by kernel_rfl) (by decide) ?_ ?_
 ·intro vs C r h
  simp only at h
  unfold ST40 at h
  split at h
  ·cases h; rfl
  ·cases h
 ·intro E args C r h hC hlen
  simp only at h
  unfold ST40 at h
  split at h
  rotate_left
  ·cases h
  rename_i p0
  cases h
  simp only [lens] at hlen
  refine ⟨show 1≤75 from by decide,?_⟩
  refine Tri.sub (Sub.of_eq (show _=([(0,qr p0)],[]) from rfl)) ?_
  refine sr [] none [2,0] [0] (TT∧(TT∧True))
    ([(2,qp 0 0),(0,qr p0)],[(0,.ints .i64 48 [0,0,0,0,0,0,0,0,0,0,0,0,0,0,0,0,0,0,0,0,0,0,0,0,0,0,0,0,0,0,0,0,0,0,0,0,0,0,0,0,0,0,0,0,0,0,0,0])])
    32 (⟨tt,⟨tt,trivial⟩⟩) ?_
  refine Tri.seq ?_
  refine sr [] none [12,2,0] [0] (TT∧(TT∧(TT∧True)))
    ([(12,.sc (.b (((p0.length:Int):Int) != 32))),(2,qp 0 0),(0,qr p0)],[(0,.ints .i64 48 [0,0,0,0,0,0,0,0,0,0,0,0,0,0,0,0,0,0,0,0,0,0,0,0,0,0,0,0,0,0,0,0,0,0,0,0,0,0,0,0,0,0,0,0,0,0,0,0])])
    80 (⟨tt,⟨tt,⟨tt,trivial⟩⟩⟩) ?_
  refine Tri.cond (x:=(((p0.length:Int):Int) != 32)) (by kernel_rfl) (fun h1 => ?_) (fun h1 => ?_)
  ·
   have h1':=ne_true_i h1
   refine sr [] none [3,2] [0] (TT∧(((True∧(48=48))∧True)∧(TT∧True)))
     ([(3,.sc (.b false)),(2,qp 0 0)],[(0,.ints .i64 48 [0,0,0,0,0,0,0,0,0,0,0,0,0,0,0,0,0,0,0,0,0,0,0,0,0,0,0,0,0,0,0,0,0,0,0,0,0,0,0,0,0,0,0,0,0,0,0,0])])
     128 (⟨tt,⟨⟨⟨trivial,(rfl)⟩,trivial⟩,⟨tt,trivial⟩⟩⟩) ?_
   refine Tri.ret ?_
   repeat (first | refine thenP_ret ?_ | refine blkP_ret ?_ | refine countP_ret ?_ | refine joinP_ret ?_)
   refine endP.conv (r':=⟨.tup [.ints .i64 48 [0,0,0,0,0,0,0,0,0,0,0,0,0,0,0,0,0,0,0,0,0,0,0,0,0,0,0,0,0,0,0,0,0,0,0,0,0,0,0,0,0,0,0,0,0,0,0,0],.sc (.b false)],[]⟩) (by simp only [FT40,FT40_1]; try simp only [h1,sel_true,sel_false]) ?_
   exact endP.ret [] (True∧TT) (by kernel_rfl) (by kernel_rfl) (by kernel_rfl) ⟨trivial,tt⟩
  ·
   have h1':=ne_false_i h1
   refine Tri.skip ?_
   change Tri _ _ _ _ _ _
   refine sr [] none [4,2,0] [112,0] (TT∧(((True∧(p0.length=32))∧True)∧(TT∧(((True∧(16=16))∧True)∧True))))
     ([(4,qp 112 0),(2,qp 0 0),(0,qr p0)],[(112,.ints .i64 16 (F24 p0)),(0,.ints .i64 48 [0,0,0,0,0,0,0,0,0,0,0,0,0,0,0,0,0,0,0,0,0,0,0,0,0,0,0,0,0,0,0,0,0,0,0,0,0,0,0,0,0,0,0,0,0,0,0,0])])
     144 (⟨tt,⟨⟨⟨trivial,(by omega)⟩,trivial⟩,⟨tt,⟨⟨⟨trivial,(rfl)⟩,trivial⟩,trivial⟩⟩⟩⟩) ?_
   refine sr [] none [5,4,2,0] [160,112,0] (TT∧((TT∧True)∧(TT∧True)))
     ([(5,.sc (.sl 160 0 32 1 none)),(4,qp 112 0),(2,qp 0 0),(0,qr p0)],[(160,.ints .u8 32 (F49 (F24 p0))),(112,.ints .i64 16 (F24 p0)),(0,.ints .i64 48 [0,0,0,0,0,0,0,0,0,0,0,0,0,0,0,0,0,0,0,0,0,0,0,0,0,0,0,0,0,0,0,0,0,0,0,0,0,0,0,0,0,0,0,0,0,0,0,0])])
     192 (⟨tt,⟨⟨tt,trivial⟩,⟨tt,trivial⟩⟩⟩) ?_
   refine sr [] none [6,5,4,2,0] [160,112,0] (TT∧((((0:Int)≤31∧31 < (p0.length:Int))∧True)∧(((31 < p0.length)∧True)∧(TT∧(TT∧True)))))
     ([(6,.sc (.b (decide ((p0.getD 31 0:Int) ≥ 128)))),(5,.sc (.sl 160 0 32 1 none)),(4,qp 112 0),(2,qp 0 0),(0,qr p0)],[(160,.ints .u8 32 (F49 (F24 p0))),(112,.ints .i64 16 (F24 p0)),(0,.ints .i64 48 [0,0,0,0,0,0,0,0,0,0,0,0,0,0,0,0,0,0,0,0,0,0,0,0,0,0,0,0,0,0,0,0,0,0,0,0,0,0,0,0,0,0,0,0,0,0,0,0])])
     272 (⟨tt,⟨⟨(by omega),trivial⟩,⟨⟨(by omega),trivial⟩,⟨tt,⟨tt,trivial⟩⟩⟩⟩⟩) ?_
   refine Tri.seq ?_
   refine sr [] none [22,6,5,4,2,0] [160,112,0] (TT∧True)
     ([(22,.sc (.b (decide ((p0.getD 31 0:Int) ≥ 128)))),(6,.sc (.b (decide ((p0.getD 31 0:Int) ≥ 128)))),(5,.sc (.sl 160 0 32 1 none)),(4,qp 112 0),(2,qp 0 0),(0,qr p0)],[(160,.ints .u8 32 (F49 (F24 p0))),(112,.ints .i64 16 (F24 p0)),(0,.ints .i64 48 [0,0,0,0,0,0,0,0,0,0,0,0,0,0,0,0,0,0,0,0,0,0,0,0,0,0,0,0,0,0,0,0,0,0,0,0,0,0,0,0,0,0,0,0,0,0,0,0])])
     288 (⟨tt,trivial⟩) ?_
   refine Tri.join (x:=(decide ((p0.getD 31 0:Int) ≥ 128))) (fun bb => ([(6,.sc (.b (decide ((p0.getD 31 0:Int) ≥ 128)))),(5,.sc (.sl 160 0 32 1 none)),(4,qp 112 0),(2,qp 0 0),(0,qr p0)],[(160,.ints .u8 32 (sel bb ((F49 (F24 p0)).set 31 (iAdd .u8 ((F49 (F24 p0)).getD 31 0) 128)) (F49 (F24 p0)))),(112,.ints .i64 16 (F24 p0)),(0,.ints .i64 48 [0,0,0,0,0,0,0,0,0,0,0,0,0,0,0,0,0,0,0,0,0,0,0,0,0,0,0,0,0,0,0,0,0,0,0,0,0,0,0,0,0,0,0,0,0,0,0,0])])) 384 (by kernel_rfl) (fun h2 => ?_) (fun h2 => ?_) ?_
   ·
    have h2':=of_decide_eq_true h2
    refine rr [] none [6,5,4,2,0] [160,112,0] (TT∧((((0:Int)≤31∧31 < ((32:Nat):Int))∧True)∧(((31 < 32)∧True)∧(TT∧((((0:Int)≤31∧31 < ((32:Nat):Int))∧True)∧((((31 < 32)∧(1=1))∧True)∧True))))))
      ([(6,.sc (.b (decide ((p0.getD 31 0:Int) ≥ 128)))),(5,.sc (.sl 160 0 32 1 none)),(4,qp 112 0),(2,qp 0 0),(0,qr p0)],[(160,.ints .u8 32 ((F49 (F24 p0)).set 31 (iAdd .u8 ((F49 (F24 p0)).getD 31 0) 128))),(112,.ints .i64 16 (F24 p0)),(0,.ints .i64 48 [0,0,0,0,0,0,0,0,0,0,0,0,0,0,0,0,0,0,0,0,0,0,0,0,0,0,0,0,0,0,0,0,0,0,0,0,0,0,0,0,0,0,0,0,0,0,0,0])])
      384 (⟨tt,⟨⟨(by omega),trivial⟩,⟨⟨(by omega),trivial⟩,⟨tt,⟨⟨(by omega),trivial⟩,⟨⟨⟨(by omega),(rfl)⟩,trivial⟩,trivial⟩⟩⟩⟩⟩⟩) ?_
    exact (Sub.ren (ns:=[(160,160),(112,112),(0,0)]) (kf:=[6,5,4,2,0]) (s':=([(6,.sc (.b (decide ((p0.getD 31 0:Int) ≥ 128)))),(5,.sc (.sl 160 0 32 1 none)),(4,qp 112 0),(2,qp 0 0),(0,qr p0)],[(160,.ints .u8 32 ((F49 (F24 p0)).set 31 (iAdd .u8 ((F49 (F24 p0)).getD 31 0) 128))),(112,.ints .i64 16 (F24 p0)),(0,.ints .i64 48 [0,0,0,0,0,0,0,0,0,0,0,0,0,0,0,0,0,0,0,0,0,0,0,0,0,0,0,0,0,0,0,0,0,0,0,0,0,0,0,0,0,0,0,0,0,0,0,0])])) (by kernel_rfl) (by kernel_rfl)).trans (Sub.of_eq (by simp only [sel_true,sel_false]))
   ·
    have h2':=of_decide_eq_false h2
    refine Tri.skip ?_
    exact (Sub.ren (ns:=[(160,160),(112,112),(0,0)]) (kf:=[6,5,4,2,0]) (s':=([(6,.sc (.b (decide ((p0.getD 31 0:Int) ≥ 128)))),(5,.sc (.sl 160 0 32 1 none)),(4,qp 112 0),(2,qp 0 0),(0,qr p0)],[(160,.ints .u8 32 (F49 (F24 p0))),(112,.ints .i64 16 (F24 p0)),(0,.ints .i64 48 [0,0,0,0,0,0,0,0,0,0,0,0,0,0,0,0,0,0,0,0,0,0,0,0,0,0,0,0,0,0,0,0,0,0,0,0,0,0,0,0,0,0,0,0,0,0,0,0])])) (by kernel_rfl) (by kernel_rfl)).trans (Sub.of_eq (by simp only [sel_true,sel_false]))
   ·
    change Tri _ _ _ _ _ _
    refine Tri.seq ?_
    refine sr [] none [32,6,4,2] [112,0] (TT∧(((0 + 32≤32)∧True)∧(TT∧(TT∧(TT∧True)))))
      ([(32,.sc (.b (!(strEq (bytesOf (((sel (decide ((p0.getD 31 0:Int) ≥ 128)) ((F49 (F24 p0)).set 31 (iAdd .u8 ((F49 (F24 p0)).getD 31 0) 128)) (F49 (F24 p0))).drop 0).take 32)) (bytesOf p0))))),(6,.sc (.b (decide ((p0.getD 31 0:Int) ≥ 128)))),(4,qp 112 0),(2,qp 0 0)],[(112,.ints .i64 16 (F24 p0)),(0,.ints .i64 48 [0,0,0,0,0,0,0,0,0,0,0,0,0,0,0,0,0,0,0,0,0,0,0,0,0,0,0,0,0,0,0,0,0,0,0,0,0,0,0,0,0,0,0,0,0,0,0,0])])
      464 (⟨tt,⟨⟨(by omega),trivial⟩,⟨tt,⟨tt,⟨tt,trivial⟩⟩⟩⟩⟩) ?_
    refine Tri.cond (x:=(!(strEq (bytesOf (((sel (decide ((p0.getD 31 0:Int) ≥ 128)) ((F49 (F24 p0)).set 31 (iAdd .u8 ((F49 (F24 p0)).getD 31 0) 128)) (F49 (F24 p0))).drop 0).take 32)) (bytesOf p0)))) (by kernel_rfl) (fun h3 => ?_) (fun h3 => ?_)
    ·
     refine sr [] none [3,2] [0] (TT∧(((True∧(48=48))∧True)∧(TT∧True)))
       ([(3,.sc (.b false)),(2,qp 0 0)],[(0,.ints .i64 48 [0,0,0,0,0,0,0,0,0,0,0,0,0,0,0,0,0,0,0,0,0,0,0,0,0,0,0,0,0,0,0,0,0,0,0,0,0,0,0,0,0,0,0,0,0,0,0,0])])
       512 (⟨tt,⟨⟨⟨trivial,(rfl)⟩,trivial⟩,⟨tt,trivial⟩⟩⟩) ?_
     refine Tri.ret ?_
     repeat (first | refine thenP_ret ?_ | refine blkP_ret ?_ | refine countP_ret ?_ | refine joinP_ret ?_)
     refine endP.conv (r':=⟨.tup [.ints .i64 48 [0,0,0,0,0,0,0,0,0,0,0,0,0,0,0,0,0,0,0,0,0,0,0,0,0,0,0,0,0,0,0,0,0,0,0,0,0,0,0,0,0,0,0,0,0,0,0,0],.sc (.b false)],[]⟩) (by simp only [FT40,FT40_1]; try simp only [h1,sel_true,sel_false]; try simp only [h3,sel_true,sel_false]) ?_
     exact endP.ret [] (True∧TT) (by kernel_rfl) (by kernel_rfl) (by kernel_rfl) ⟨trivial,tt⟩
    ·
     refine Tri.skip ?_
     change Tri _ _ _ _ _ _
     refine sr [] none [7,6,4,2] [512,112,0] (TT∧(TT∧((TT∧True)∧(TT∧(((True∧(16=16))∧True)∧True)))))
       ([(7,qp 512 0),(6,.sc (.b (decide ((p0.getD 31 0:Int) ≥ 128)))),(4,qp 112 0),(2,qp 0 0)],[(512,.ints .i64 16 (FT57 (F24 p0) (F24 p0))),(112,.ints .i64 16 (F24 p0)),(0,.ints .i64 48 [0,0,0,0,0,0,0,0,0,0,0,0,0,0,0,0,0,0,0,0,0,0,0,0,0,0,0,0,0,0,0,0,0,0,0,0,0,0,0,0,0,0,0,0,0,0,0,0])])
       544 (⟨tt,⟨tt,⟨⟨tt,trivial⟩,⟨tt,⟨⟨⟨trivial,(rfl)⟩,trivial⟩,trivial⟩⟩⟩⟩⟩) ?_
     refine sr [] (some [0,0,3,7,0,31,63,127,255,511,1023,2047,4095,4095,0,24575,65535]) [9,8,6,4,2] [768,112,0] (TT∧((TT∧True)∧((TT∧True)∧((TT∧True)∧(TT∧((TT∧True)∧((TT∧True)∧((TT∧True)∧((TT∧True)∧((TT∧True)∧((TT∧True)∧(TT∧(TT∧(TT∧(TT∧(((True∧(16=16))∧True)∧(TT∧True)))))))))))))))))
       ([(9,.sc (.b (F35_1 (FT57 (FT42 (FT57 (F24 p0) (F24 p0)) (FT43 1)) (F28 (FT68 (FT57 (FT45) (FT57 (F24 p0) (F24 p0))) (FT43 1))))))),(8,qp 768 0),(6,.sc (.b (decide ((p0.getD 31 0:Int) ≥ 128)))),(4,qp 112 0),(2,qp 0 0)],[(768,.ints .i64 16 (F35 (FT57 (FT42 (FT57 (F24 p0) (F24 p0)) (FT43 1)) (F28 (FT68 (FT57 (FT45) (FT57 (F24 p0) (F24 p0))) (FT43 1)))))),(112,.ints .i64 16 (F24 p0)),(0,.ints .i64 48 [0,0,0,0,0,0,0,0,0,0,0,0,0,0,0,0,0,0,0,0,0,0,0,0,0,0,0,0,0,0,0,0,0,0,0,0,0,0,0,0,0,0,0,0,0,0,0,0])])
       816 (⟨tt,⟨⟨tt,trivial⟩,⟨⟨tt,trivial⟩,⟨⟨tt,trivial⟩,⟨tt,⟨⟨tt,trivial⟩,⟨⟨tt,trivial⟩,⟨⟨tt,trivial⟩,⟨⟨tt,trivial⟩,⟨⟨tt,trivial⟩,⟨⟨tt,trivial⟩,⟨tt,⟨tt,⟨tt,⟨tt,⟨⟨⟨trivial,(rfl)⟩,trivial⟩,⟨tt,trivial⟩⟩⟩⟩⟩⟩⟩⟩⟩⟩⟩⟩⟩⟩⟩⟩⟩) ?_
     refine Tri.seq ?_
     refine Tri.split (!(F35_1 (FT57 (FT42 (FT57 (F24 p0) (F24 p0)) (FT43 1)) (F28 (FT68 (FT57 (FT45) (FT57 (F24 p0) (F24 p0))) (FT43 1)))))) (fun h4 => ?_) (fun h4 => ?_)
     ·
      refine sr [(53,.b true)] (some [0,1,3,7,7,31,63,127,255,511]) [60,8,6,4,2] [768,112,0] (TT∧(TT∧((True∧((!(F35_1 (FT57 (FT42 (FT57 (F24 p0) (F24 p0)) (FT43 1)) (F28 (FT68 (FT57 (FT45) (FT57 (F24 p0) (F24 p0))) (FT43 1))))))=true))∧(TT∧(TT∧(TT∧(TT∧(TT∧(TT∧(TT∧True))))))))))
        ([(60,.sc (.b true)),(8,qp 768 0),(6,.sc (.b (decide ((p0.getD 31 0:Int) ≥ 128)))),(4,qp 112 0),(2,qp 0 0)],[(768,.ints .i64 16 (F35 (FT57 (FT42 (FT57 (F24 p0) (F24 p0)) (FT43 1)) (F28 (FT68 (FT57 (FT45) (FT57 (F24 p0) (F24 p0))) (FT43 1)))))),(112,.ints .i64 16 (F24 p0)),(0,.ints .i64 48 [0,0,0,0,0,0,0,0,0,0,0,0,0,0,0,0,0,0,0,0,0,0,0,0,0,0,0,0,0,0,0,0,0,0,0,0,0,0,0,0,0,0,0,0,0,0,0,0])])
        976 (⟨tt,⟨tt,⟨⟨trivial,(h4)⟩,⟨tt,⟨tt,⟨tt,⟨tt,⟨tt,⟨tt,⟨tt,trivial⟩⟩⟩⟩⟩⟩⟩⟩⟩⟩) ?_
      refine Tri.cond_true (by kernel_rfl) ?_
      refine sr [] none [3,2] [0] (TT∧(((True∧(48=48))∧True)∧(TT∧True)))
        ([(3,.sc (.b false)),(2,qp 0 0)],[(0,.ints .i64 48 [0,0,0,0,0,0,0,0,0,0,0,0,0,0,0,0,0,0,0,0,0,0,0,0,0,0,0,0,0,0,0,0,0,0,0,0,0,0,0,0,0,0,0,0,0,0,0,0])])
        1024 (⟨tt,⟨⟨⟨trivial,(rfl)⟩,trivial⟩,⟨tt,trivial⟩⟩⟩) ?_
      refine Tri.ret ?_
      repeat (first | refine thenP_ret ?_ | refine blkP_ret ?_ | refine countP_ret ?_ | refine joinP_ret ?_)
      refine endP.conv (r':=⟨.tup [.ints .i64 48 [0,0,0,0,0,0,0,0,0,0,0,0,0,0,0,0,0,0,0,0,0,0,0,0,0,0,0,0,0,0,0,0,0,0,0,0,0,0,0,0,0,0,0,0,0,0,0,0],.sc (.b false)],[]⟩) (by simp only [FT40,FT40_1]; try simp only [h1,sel_true,sel_false]; try simp only [h3,sel_true,sel_false]; try simp only [h4,sel_true,sel_false]) ?_
      exact endP.ret [] (True∧TT) (by kernel_rfl) (by kernel_rfl) (by kernel_rfl) ⟨trivial,tt⟩
     ·
      refine Tri.split (((F35 (FT57 (FT42 (FT57 (F24 p0) (F24 p0)) (FT43 1)) (F28 (FT68 (FT57 (FT45) (FT57 (F24 p0) (F24 p0))) (FT43 1))))):List Int) == (FT43 0)) (fun h5 => ?_) (fun h5 => ?_)
      ·
       refine sr [(53,.b false),(57,.b true)] (some [0,1,3,7,7,31,63,127,255,511]) [60,8,6,4,2] [768,112,0] (TT∧(TT∧((True∧((!(F35_1 (FT57 (FT42 (FT57 (F24 p0) (F24 p0)) (FT43 1)) (F28 (FT68 (FT57 (FT45) (FT57 (F24 p0) (F24 p0))) (FT43 1))))))=false))∧(TT∧((TT∧True)∧(TT∧((True∧((((F35 (FT57 (FT42 (FT57 (F24 p0) (F24 p0)) (FT43 1)) (F28 (FT68 (FT57 (FT45) (FT57 (F24 p0) (F24 p0))) (FT43 1))))):List Int) == (FT43 0))=true))∧(TT∧(TT∧(TT∧True))))))))))
         ([(60,.sc (.b (decide ((p0.getD 31 0:Int) ≥ 128)))),(8,qp 768 0),(6,.sc (.b (decide ((p0.getD 31 0:Int) ≥ 128)))),(4,qp 112 0),(2,qp 0 0)],[(768,.ints .i64 16 (F35 (FT57 (FT42 (FT57 (F24 p0) (F24 p0)) (FT43 1)) (F28 (FT68 (FT57 (FT45) (FT57 (F24 p0) (F24 p0))) (FT43 1)))))),(112,.ints .i64 16 (F24 p0)),(0,.ints .i64 48 [0,0,0,0,0,0,0,0,0,0,0,0,0,0,0,0,0,0,0,0,0,0,0,0,0,0,0,0,0,0,0,0,0,0,0,0,0,0,0,0,0,0,0,0,0,0,0,0])])
         976 (⟨tt,⟨tt,⟨⟨trivial,(h4)⟩,⟨tt,⟨⟨tt,trivial⟩,⟨tt,⟨⟨trivial,(h5)⟩,⟨tt,⟨tt,⟨tt,trivial⟩⟩⟩⟩⟩⟩⟩⟩⟩⟩) ?_
       refine Tri.cond (x:=(decide ((p0.getD 31 0:Int) ≥ 128))) (by kernel_rfl) (fun h6 => ?_) (fun h6 => ?_)
       ·
        have h6':=of_decide_eq_true h6
        refine sr [] none [3,2] [0] (TT∧(((True∧(48=48))∧True)∧(TT∧True)))
          ([(3,.sc (.b false)),(2,qp 0 0)],[(0,.ints .i64 48 [0,0,0,0,0,0,0,0,0,0,0,0,0,0,0,0,0,0,0,0,0,0,0,0,0,0,0,0,0,0,0,0,0,0,0,0,0,0,0,0,0,0,0,0,0,0,0,0])])
          1024 (⟨tt,⟨⟨⟨trivial,(rfl)⟩,trivial⟩,⟨tt,trivial⟩⟩⟩) ?_
        refine Tri.ret ?_
        repeat (first | refine thenP_ret ?_ | refine blkP_ret ?_ | refine countP_ret ?_ | refine joinP_ret ?_)
        refine endP.conv (r':=⟨.tup [.ints .i64 48 [0,0,0,0,0,0,0,0,0,0,0,0,0,0,0,0,0,0,0,0,0,0,0,0,0,0,0,0,0,0,0,0,0,0,0,0,0,0,0,0,0,0,0,0,0,0,0,0],.sc (.b false)],[]⟩) (by simp only [FT40,FT40_1]; try simp only [h1,sel_true,sel_false]; try simp only [h3,sel_true,sel_false]; try simp only [h4,sel_true,sel_false]; try simp only [h5,sel_true,sel_false]; try simp only [h6,sel_true,sel_false]) ?_
        exact endP.ret [] (True∧TT) (by kernel_rfl) (by kernel_rfl) (by kernel_rfl) ⟨trivial,tt⟩
       ·
        have h6':=of_decide_eq_false h6
        refine Tri.skip ?_
        change Tri _ _ _ _ _ _
        refine Tri.seq ?_
        refine sr [] none [67,8,4,2] [768,112,0] ((((0:Int)≤0∧0 < ((16:Nat):Int))∧True)∧(((0 < 16)∧True)∧(((2 ≠ (0:Int))∧True)∧(TT∧(TT∧(TT∧True))))))
          ([(67,.sc (.b (!((((iRem ((F35 (FT57 (FT42 (FT57 (F24 p0) (F24 p0)) (FT43 1)) (F28 (FT68 (FT57 (FT45) (FT57 (F24 p0) (F24 p0))) (FT43 1))))).getD 0 0) 2):Int) == 1) == (decide ((p0.getD 31 0:Int) ≥ 128)))))),(8,qp 768 0),(4,qp 112 0),(2,qp 0 0)],[(768,.ints .i64 16 (F35 (FT57 (FT42 (FT57 (F24 p0) (F24 p0)) (FT43 1)) (F28 (FT68 (FT57 (FT45) (FT57 (F24 p0) (F24 p0))) (FT43 1)))))),(112,.ints .i64 16 (F24 p0)),(0,.ints .i64 48 [0,0,0,0,0,0,0,0,0,0,0,0,0,0,0,0,0,0,0,0,0,0,0,0,0,0,0,0,0,0,0,0,0,0,0,0,0,0,0,0,0,0,0,0,0,0,0,0])])
          1072 (⟨⟨(by omega),trivial⟩,⟨⟨(by omega),trivial⟩,⟨⟨(by omega),trivial⟩,⟨tt,⟨tt,⟨tt,trivial⟩⟩⟩⟩⟩⟩) ?_
        refine Tri.join (x:=(!((((iRem ((F35 (FT57 (FT42 (FT57 (F24 p0) (F24 p0)) (FT43 1)) (F28 (FT68 (FT57 (FT45) (FT57 (F24 p0) (F24 p0))) (FT43 1))))).getD 0 0) 2):Int) == 1) == (decide ((p0.getD 31 0:Int) ≥ 128))))) (fun bb => ([(8,qp 768 0),(4,qp 112 0),(2,qp 0 0)],[(768,.ints .i64 16 (sel bb (FT42 (FT43 0) (F35 (FT57 (FT42 (FT57 (F24 p0) (F24 p0)) (FT43 1)) (F28 (FT68 (FT57 (FT45) (FT57 (F24 p0) (F24 p0))) (FT43 1)))))) (F35 (FT57 (FT42 (FT57 (F24 p0) (F24 p0)) (FT43 1)) (F28 (FT68 (FT57 (FT45) (FT57 (F24 p0) (F24 p0))) (FT43 1))))))),(112,.ints .i64 16 (F24 p0)),(0,.ints .i64 48 [0,0,0,0,0,0,0,0,0,0,0,0,0,0,0,0,0,0,0,0,0,0,0,0,0,0,0,0,0,0,0,0,0,0,0,0,0,0,0,0,0,0,0,0,0,0,0,0])])) 1136 (by kernel_rfl) (fun h7 => ?_) (fun h7 => ?_) ?_
        ·
         refine rr [] (some [0,0,3,7]) [8,4,2] [768,112,0] ((TT∧True)∧(TT∧((TT∧True)∧(((True∧(16=16))∧True)∧True))))
           ([(8,qp 768 0),(4,qp 112 0),(2,qp 0 0)],[(768,.ints .i64 16 (FT42 (FT43 0) (F35 (FT57 (FT42 (FT57 (F24 p0) (F24 p0)) (FT43 1)) (F28 (FT68 (FT57 (FT45) (FT57 (F24 p0) (F24 p0))) (FT43 1))))))),(112,.ints .i64 16 (F24 p0)),(0,.ints .i64 48 [0,0,0,0,0,0,0,0,0,0,0,0,0,0,0,0,0,0,0,0,0,0,0,0,0,0,0,0,0,0,0,0,0,0,0,0,0,0,0,0,0,0,0,0,0,0,0,0])])
           1136 (⟨⟨tt,trivial⟩,⟨tt,⟨⟨tt,trivial⟩,⟨⟨⟨trivial,(rfl)⟩,trivial⟩,trivial⟩⟩⟩⟩) ?_
         exact (Sub.ren (ns:=[(768,768),(112,112),(0,0)]) (kf:=[8,4,2]) (s':=([(8,qp 768 0),(4,qp 112 0),(2,qp 0 0)],[(768,.ints .i64 16 (FT42 (FT43 0) (F35 (FT57 (FT42 (FT57 (F24 p0) (F24 p0)) (FT43 1)) (F28 (FT68 (FT57 (FT45) (FT57 (F24 p0) (F24 p0))) (FT43 1))))))),(112,.ints .i64 16 (F24 p0)),(0,.ints .i64 48 [0,0,0,0,0,0,0,0,0,0,0,0,0,0,0,0,0,0,0,0,0,0,0,0,0,0,0,0,0,0,0,0,0,0,0,0,0,0,0,0,0,0,0,0,0,0,0,0])])) (by kernel_rfl) (by kernel_rfl)).trans (Sub.of_eq (by simp only [sel_true,sel_false]))
        ·
         refine Tri.skip ?_
         exact (Sub.ren (ns:=[(768,768),(112,112),(0,0)]) (kf:=[8,4,2]) (s':=([(8,qp 768 0),(4,qp 112 0),(2,qp 0 0)],[(768,.ints .i64 16 (F35 (FT57 (FT42 (FT57 (F24 p0) (F24 p0)) (FT43 1)) (F28 (FT68 (FT57 (FT45) (FT57 (F24 p0) (F24 p0))) (FT43 1)))))),(112,.ints .i64 16 (F24 p0)),(0,.ints .i64 48 [0,0,0,0,0,0,0,0,0,0,0,0,0,0,0,0,0,0,0,0,0,0,0,0,0,0,0,0,0,0,0,0,0,0,0,0,0,0,0,0,0,0,0,0,0,0,0,0])])) (by kernel_rfl) (by kernel_rfl)).trans (Sub.of_eq (by simp only [sel_true,sel_false]))
        ·
         change Tri _ _ _ _ _ _
         refine sr [] (some [0,0,0,7,15,31]) [3,2] [0] (TT∧(TT∧((TT∧True)∧(((((0 + 16≤48)∧(16=16))∧(((16 + 16≤48)∧(16=16))∧(((32 + 16≤48)∧(16=16))∧True)))∧True)∧(((True∧(48=48))∧True)∧(TT∧True))))))
           ([(3,.sc (.b true)),(2,qp 0 0)],[(0,.ints .i64 48 (splice (splice (splice [0,0,0,0,0,0,0,0,0,0,0,0,0,0,0,0,0,0,0,0,0,0,0,0,0,0,0,0,0,0,0,0,0,0,0,0,0,0,0,0,0,0,0,0,0,0,0,0] 0 (sel (!((((iRem ((F35 (FT57 (FT42 (FT57 (F24 p0) (F24 p0)) (FT43 1)) (F28 (FT68 (FT57 (FT45) (FT57 (F24 p0) (F24 p0))) (FT43 1))))).getD 0 0) 2):Int) == 1) == (decide ((p0.getD 31 0:Int) ≥ 128)))) (FT42 (FT43 0) (F35 (FT57 (FT42 (FT57 (F24 p0) (F24 p0)) (FT43 1)) (F28 (FT68 (FT57 (FT45) (FT57 (F24 p0) (F24 p0))) (FT43 1)))))) (F35 (FT57 (FT42 (FT57 (F24 p0) (F24 p0)) (FT43 1)) (F28 (FT68 (FT57 (FT45) (FT57 (F24 p0) (F24 p0))) (FT43 1))))))) 16 (F24 p0)) 32 (FT43 1)))])
           1232 (⟨tt,⟨tt,⟨⟨tt,trivial⟩,⟨⟨⟨⟨(by omega),(rfl)⟩,⟨⟨(by omega),(rfl)⟩,⟨⟨(by omega),(rfl)⟩,trivial⟩⟩⟩,trivial⟩,⟨⟨⟨trivial,(rfl)⟩,trivial⟩,⟨tt,trivial⟩⟩⟩⟩⟩⟩) ?_
         refine Tri.ret ?_
         repeat (first | refine thenP_ret ?_ | refine blkP_ret ?_ | refine countP_ret ?_ | refine joinP_ret ?_)
         refine endP.conv (r':=⟨.tup [.ints .i64 48 (splice (splice (splice [0,0,0,0,0,0,0,0,0,0,0,0,0,0,0,0,0,0,0,0,0,0,0,0,0,0,0,0,0,0,0,0,0,0,0,0,0,0,0,0,0,0,0,0,0,0,0,0] 0 (sel (!((((iRem ((F35 (FT57 (FT42 (FT57 (F24 p0) (F24 p0)) (FT43 1)) (F28 (FT68 (FT57 (FT45) (FT57 (F24 p0) (F24 p0))) (FT43 1))))).getD 0 0) 2):Int) == 1) == (decide ((p0.getD 31 0:Int) ≥ 128)))) (FT42 (FT43 0) (F35 (FT57 (FT42 (FT57 (F24 p0) (F24 p0)) (FT43 1)) (F28 (FT68 (FT57 (FT45) (FT57 (F24 p0) (F24 p0))) (FT43 1)))))) (F35 (FT57 (FT42 (FT57 (F24 p0) (F24 p0)) (FT43 1)) (F28 (FT68 (FT57 (FT45) (FT57 (F24 p0) (F24 p0))) (FT43 1))))))) 16 (F24 p0)) 32 (FT43 1)),.sc (.b true)],[]⟩) (by simp only [FT40,FT40_1]; try simp only [h1,sel_true,sel_false]; try simp only [h3,sel_true,sel_false]; try simp only [h4,sel_true,sel_false]; try simp only [h5,sel_true,sel_false]; try simp only [h6,sel_true,sel_false]) ?_
         exact endP.ret [] (True∧TT) (by kernel_rfl) (by kernel_rfl) (by kernel_rfl) ⟨trivial,tt⟩
      ·
       refine sr [(53,.b false),(57,.b false)] (some [0,1,3,7,7,31,63,127,255,511]) [60,8,6,4,2] [768,112,0] (TT∧(TT∧((True∧((!(F35_1 (FT57 (FT42 (FT57 (F24 p0) (F24 p0)) (FT43 1)) (F28 (FT68 (FT57 (FT45) (FT57 (F24 p0) (F24 p0))) (FT43 1))))))=false))∧(TT∧((TT∧True)∧(TT∧((True∧((((F35 (FT57 (FT42 (FT57 (F24 p0) (F24 p0)) (FT43 1)) (F28 (FT68 (FT57 (FT45) (FT57 (F24 p0) (F24 p0))) (FT43 1))))):List Int) == (FT43 0))=false))∧(TT∧(TT∧(TT∧True))))))))))
         ([(60,.sc (.b false)),(8,qp 768 0),(6,.sc (.b (decide ((p0.getD 31 0:Int) ≥ 128)))),(4,qp 112 0),(2,qp 0 0)],[(768,.ints .i64 16 (F35 (FT57 (FT42 (FT57 (F24 p0) (F24 p0)) (FT43 1)) (F28 (FT68 (FT57 (FT45) (FT57 (F24 p0) (F24 p0))) (FT43 1)))))),(112,.ints .i64 16 (F24 p0)),(0,.ints .i64 48 [0,0,0,0,0,0,0,0,0,0,0,0,0,0,0,0,0,0,0,0,0,0,0,0,0,0,0,0,0,0,0,0,0,0,0,0,0,0,0,0,0,0,0,0,0,0,0,0])])
         976 (⟨tt,⟨tt,⟨⟨trivial,(h4)⟩,⟨tt,⟨⟨tt,trivial⟩,⟨tt,⟨⟨trivial,(h5)⟩,⟨tt,⟨tt,⟨tt,trivial⟩⟩⟩⟩⟩⟩⟩⟩⟩⟩) ?_
       refine Tri.cond_false (by kernel_rfl) ?_
       refine Tri.skip ?_
       change Tri _ _ _ _ _ _
       refine Tri.seq ?_
       refine sr [] none [67,8,4,2] [768,112,0] ((((0:Int)≤0∧0 < ((16:Nat):Int))∧True)∧(((0 < 16)∧True)∧(((2 ≠ (0:Int))∧True)∧(TT∧(TT∧(TT∧True))))))
         ([(67,.sc (.b (!((((iRem ((F35 (FT57 (FT42 (FT57 (F24 p0) (F24 p0)) (FT43 1)) (F28 (FT68 (FT57 (FT45) (FT57 (F24 p0) (F24 p0))) (FT43 1))))).getD 0 0) 2):Int) == 1) == (decide ((p0.getD 31 0:Int) ≥ 128)))))),(8,qp 768 0),(4,qp 112 0),(2,qp 0 0)],[(768,.ints .i64 16 (F35 (FT57 (FT42 (FT57 (F24 p0) (F24 p0)) (FT43 1)) (F28 (FT68 (FT57 (FT45) (FT57 (F24 p0) (F24 p0))) (FT43 1)))))),(112,.ints .i64 16 (F24 p0)),(0,.ints .i64 48 [0,0,0,0,0,0,0,0,0,0,0,0,0,0,0,0,0,0,0,0,0,0,0,0,0,0,0,0,0,0,0,0,0,0,0,0,0,0,0,0,0,0,0,0,0,0,0,0])])
         1072 (⟨⟨(by omega),trivial⟩,⟨⟨(by omega),trivial⟩,⟨⟨(by omega),trivial⟩,⟨tt,⟨tt,⟨tt,trivial⟩⟩⟩⟩⟩⟩) ?_
       refine Tri.join (x:=(!((((iRem ((F35 (FT57 (FT42 (FT57 (F24 p0) (F24 p0)) (FT43 1)) (F28 (FT68 (FT57 (FT45) (FT57 (F24 p0) (F24 p0))) (FT43 1))))).getD 0 0) 2):Int) == 1) == (decide ((p0.getD 31 0:Int) ≥ 128))))) (fun bb => ([(8,qp 768 0),(4,qp 112 0),(2,qp 0 0)],[(768,.ints .i64 16 (sel bb (FT42 (FT43 0) (F35 (FT57 (FT42 (FT57 (F24 p0) (F24 p0)) (FT43 1)) (F28 (FT68 (FT57 (FT45) (FT57 (F24 p0) (F24 p0))) (FT43 1)))))) (F35 (FT57 (FT42 (FT57 (F24 p0) (F24 p0)) (FT43 1)) (F28 (FT68 (FT57 (FT45) (FT57 (F24 p0) (F24 p0))) (FT43 1))))))),(112,.ints .i64 16 (F24 p0)),(0,.ints .i64 48 [0,0,0,0,0,0,0,0,0,0,0,0,0,0,0,0,0,0,0,0,0,0,0,0,0,0,0,0,0,0,0,0,0,0,0,0,0,0,0,0,0,0,0,0,0,0,0,0])])) 1136 (by kernel_rfl) (fun h8 => ?_) (fun h8 => ?_) ?_
       ·
        refine rr [] (some [0,0,3,7]) [8,4,2] [768,112,0] ((TT∧True)∧(TT∧((TT∧True)∧(((True∧(16=16))∧True)∧True))))
          ([(8,qp 768 0),(4,qp 112 0),(2,qp 0 0)],[(768,.ints .i64 16 (FT42 (FT43 0) (F35 (FT57 (FT42 (FT57 (F24 p0) (F24 p0)) (FT43 1)) (F28 (FT68 (FT57 (FT45) (FT57 (F24 p0) (F24 p0))) (FT43 1))))))),(112,.ints .i64 16 (F24 p0)),(0,.ints .i64 48 [0,0,0,0,0,0,0,0,0,0,0,0,0,0,0,0,0,0,0,0,0,0,0,0,0,0,0,0,0,0,0,0,0,0,0,0,0,0,0,0,0,0,0,0,0,0,0,0])])
          1136 (⟨⟨tt,trivial⟩,⟨tt,⟨⟨tt,trivial⟩,⟨⟨⟨trivial,(rfl)⟩,trivial⟩,trivial⟩⟩⟩⟩) ?_
        exact (Sub.ren (ns:=[(768,768),(112,112),(0,0)]) (kf:=[8,4,2]) (s':=([(8,qp 768 0),(4,qp 112 0),(2,qp 0 0)],[(768,.ints .i64 16 (FT42 (FT43 0) (F35 (FT57 (FT42 (FT57 (F24 p0) (F24 p0)) (FT43 1)) (F28 (FT68 (FT57 (FT45) (FT57 (F24 p0) (F24 p0))) (FT43 1))))))),(112,.ints .i64 16 (F24 p0)),(0,.ints .i64 48 [0,0,0,0,0,0,0,0,0,0,0,0,0,0,0,0,0,0,0,0,0,0,0,0,0,0,0,0,0,0,0,0,0,0,0,0,0,0,0,0,0,0,0,0,0,0,0,0])])) (by kernel_rfl) (by kernel_rfl)).trans (Sub.of_eq (by simp only [sel_true,sel_false]))
       ·
        refine Tri.skip ?_
        exact (Sub.ren (ns:=[(768,768),(112,112),(0,0)]) (kf:=[8,4,2]) (s':=([(8,qp 768 0),(4,qp 112 0),(2,qp 0 0)],[(768,.ints .i64 16 (F35 (FT57 (FT42 (FT57 (F24 p0) (F24 p0)) (FT43 1)) (F28 (FT68 (FT57 (FT45) (FT57 (F24 p0) (F24 p0))) (FT43 1)))))),(112,.ints .i64 16 (F24 p0)),(0,.ints .i64 48 [0,0,0,0,0,0,0,0,0,0,0,0,0,0,0,0,0,0,0,0,0,0,0,0,0,0,0,0,0,0,0,0,0,0,0,0,0,0,0,0,0,0,0,0,0,0,0,0])])) (by kernel_rfl) (by kernel_rfl)).trans (Sub.of_eq (by simp only [sel_true,sel_false]))
       ·
        change Tri _ _ _ _ _ _
        refine sr [] (some [0,0,0,7,15,31]) [3,2] [0] (TT∧(TT∧((TT∧True)∧(((((0 + 16≤48)∧(16=16))∧(((16 + 16≤48)∧(16=16))∧(((32 + 16≤48)∧(16=16))∧True)))∧True)∧(((True∧(48=48))∧True)∧(TT∧True))))))
          ([(3,.sc (.b true)),(2,qp 0 0)],[(0,.ints .i64 48 (splice (splice (splice [0,0,0,0,0,0,0,0,0,0,0,0,0,0,0,0,0,0,0,0,0,0,0,0,0,0,0,0,0,0,0,0,0,0,0,0,0,0,0,0,0,0,0,0,0,0,0,0] 0 (sel (!((((iRem ((F35 (FT57 (FT42 (FT57 (F24 p0) (F24 p0)) (FT43 1)) (F28 (FT68 (FT57 (FT45) (FT57 (F24 p0) (F24 p0))) (FT43 1))))).getD 0 0) 2):Int) == 1) == (decide ((p0.getD 31 0:Int) ≥ 128)))) (FT42 (FT43 0) (F35 (FT57 (FT42 (FT57 (F24 p0) (F24 p0)) (FT43 1)) (F28 (FT68 (FT57 (FT45) (FT57 (F24 p0) (F24 p0))) (FT43 1)))))) (F35 (FT57 (FT42 (FT57 (F24 p0) (F24 p0)) (FT43 1)) (F28 (FT68 (FT57 (FT45) (FT57 (F24 p0) (F24 p0))) (FT43 1))))))) 16 (F24 p0)) 32 (FT43 1)))])
          1232 (⟨tt,⟨tt,⟨⟨tt,trivial⟩,⟨⟨⟨⟨(by omega),(rfl)⟩,⟨⟨(by omega),(rfl)⟩,⟨⟨(by omega),(rfl)⟩,trivial⟩⟩⟩,trivial⟩,⟨⟨⟨trivial,(rfl)⟩,trivial⟩,⟨tt,trivial⟩⟩⟩⟩⟩⟩) ?_
        refine Tri.ret ?_
        repeat (first | refine thenP_ret ?_ | refine blkP_ret ?_ | refine countP_ret ?_ | refine joinP_ret ?_)
        refine endP.conv (r':=⟨.tup [.ints .i64 48 (splice (splice (splice [0,0,0,0,0,0,0,0,0,0,0,0,0,0,0,0,0,0,0,0,0,0,0,0,0,0,0,0,0,0,0,0,0,0,0,0,0,0,0,0,0,0,0,0,0,0,0,0] 0 (sel (!((((iRem ((F35 (FT57 (FT42 (FT57 (F24 p0) (F24 p0)) (FT43 1)) (F28 (FT68 (FT57 (FT45) (FT57 (F24 p0) (F24 p0))) (FT43 1))))).getD 0 0) 2):Int) == 1) == (decide ((p0.getD 31 0:Int) ≥ 128)))) (FT42 (FT43 0) (F35 (FT57 (FT42 (FT57 (F24 p0) (F24 p0)) (FT43 1)) (F28 (FT68 (FT57 (FT45) (FT57 (F24 p0) (F24 p0))) (FT43 1)))))) (F35 (FT57 (FT42 (FT57 (F24 p0) (F24 p0)) (FT43 1)) (F28 (FT68 (FT57 (FT45) (FT57 (F24 p0) (F24 p0))) (FT43 1))))))) 16 (F24 p0)) 32 (FT43 1)),.sc (.b true)],[]⟩) (by simp only [FT40,FT40_1]; try simp only [h1,sel_true,sel_false]; try simp only [h3,sel_true,sel_false]; try simp only [h4,sel_true,sel_false]; try simp only [h5,sel_true,sel_false]) ?_
        exact endP.ret [] (True∧TT) (by kernel_rfl) (by kernel_rfl) (by kernel_rfl) ⟨trivial,tt⟩
theorem lenT40 {p0:List Int} (h:(!(FT40_1 p0))=false):p0.length=32:=by
 unfold FT40_1 at h
 cases hb:(((p0.length:Int):Int) != 32)
 ·have:=ne_false_i hb
  omega
 ·rw [hb,sel_true] at h
  cases h
noncomputable def FT30:List Int :=
 (FT40 (part1 (F49 (FT57 (FT43 4) (F28 (FT43 5)))) 32 0 32))
noncomputable def ST30:List AV→Option (Prop × Ret)
 | [] => some (True,⟨.ints .i64 48 (FT30),[]⟩)
 | _ => none
noncomputable def BT30:Bs:={ P:=Go.Proofs.Tryd.prog,G:=gD,tab:=tabOf [(40,⟨[.ro .u8],0,ST40⟩),(43,⟨[.val],0,ST43⟩),(55,⟨[.val],0,S28⟩),(56,⟨[.val],1,S49⟩),(57,⟨[.val,.val],0,ST57⟩)],n:=13 }
theorem BT30.ok:BT30.Ok:=⟨tabOk (P:=Go.Proofs.Tryd.prog) (G:=gD) (l:=[(40,⟨[.ro .u8],0,ST40⟩),(43,⟨[.val],0,ST43⟩),(55,⟨[.val],0,S28⟩),(56,⟨[.val],1,S49⟩),(57,⟨[.val,.val],0,ST57⟩)]) (And.intro KT40 (And.intro KT43 (And.intro K28 (And.intro K49 (And.intro KT57 True.intro))))),mixed⟩
theorem KT30:Known Go.Proofs.Tryd.prog gD 30 ⟨[],0,ST30⟩:=by
 refine Known.walk (B:=BT30) (fn:=Go.Proofs.Tryd.f30) BT30.ok (by kernel_rfl) rfl (by kernel_rfl) (by kernel_rfl) (by decide) ?_ ?_
 ·intro vs C r h
  simp only at h
  unfold ST30 at h
  split at h
  ·cases h; rfl
  ·cases h
 ·intro E args C r h hC hlen
  simp only at h
  unfold ST30 at h
  split at h
  rotate_left
  ·cases h
  skip
  cases h
  simp only [lens] at hlen
  refine ⟨show 0≤13 from by decide,?_⟩
  refine Tri.sub (Sub.of_eq (show _=([],[]) from rfl)) ?_
  refine sr [] none [0] [0] (TT∧True)
    ([(0,qp 0 0)],[(0,.ints .i64 48 [0,0,0,0,0,0,0,0,0,0,0,0,0,0,0,0,0,0,0,0,0,0,0,0,0,0,0,0,0,0,0,0,0,0,0,0,0,0,0,0,0,0,0,0,0,0,0,0])])
    16 (⟨tt,trivial⟩) ?_
  refine sr [] none [1,0] [160,0] ((TT∧True)∧((TT∧True)∧((TT∧True)∧((TT∧True)∧((TT∧True)∧(((((0 + 32≤32)∧True)∧True)∧True)∧(TT∧(TT∧(TT∧(TT∧(((True∧(48=48))∧True)∧(TT∧True))))))))))))
    ([(1,qp 160 0),(0,qp 0 0)],[(160,.ints .i64 48 (FT40 (part1 (F49 (FT57 (FT43 4) (F28 (FT43 5)))) 32 0 32))),(0,.ints .i64 48 [0,0,0,0,0,0,0,0,0,0,0,0,0,0,0,0,0,0,0,0,0,0,0,0,0,0,0,0,0,0,0,0,0,0,0,0,0,0,0,0,0,0,0,0,0,0,0,0])])
    208 (⟨⟨tt,trivial⟩,⟨⟨tt,trivial⟩,⟨⟨tt,trivial⟩,⟨⟨tt,trivial⟩,⟨⟨tt,trivial⟩,⟨⟨⟨⟨(by omega),trivial⟩,trivial⟩,trivial⟩,⟨tt,⟨tt,⟨tt,⟨tt,⟨⟨⟨trivial,(rfl)⟩,trivial⟩,⟨tt,trivial⟩⟩⟩⟩⟩⟩⟩⟩⟩⟩⟩⟩) ?_
  refine Tri.len 160 rfl (fun hl1 => ?_)
  refine sr [] none [0] [0] (TT∧(((True∧(48=48))∧True)∧True))
    ([(0,qp 0 0)],[(0,.ints .i64 48 (FT40 (part1 (F49 (FT57 (FT43 4) (F28 (FT43 5)))) 32 0 32)))])
    240 (⟨tt,⟨⟨⟨trivial,(rfl)⟩,trivial⟩,trivial⟩⟩) ?_
  refine Tri.ret ?_
  exact endP.ret [] TT (by kernel_rfl) (by kernel_rfl) (by kernel_rfl) tt
noncomputable def ST15:List AV→Option (Prop × Ret)
 | [] => some (True,⟨.sc (.sl 0 0 32 1 none),[.ints .u8 32 [237,211,245,92,26,99,18,88,214,156,247,162,222,249,222,20,0,0,0,0,0,0,0,0,0,0,0,0,0,0,0,16]]⟩)
 | _ => none
noncomputable def BT15:Bs:={ P:=Go.Proofs.Tryd.prog,G:=gD,tab:=tabOf [],n:=2 }
theorem BT15.ok:BT15.Ok:=⟨tabOk (P:=Go.Proofs.Tryd.prog) (G:=gD) (l:=[]) True.intro,mixed⟩
theorem KT15:Known Go.Proofs.Tryd.prog gD 15 ⟨[],1,ST15⟩:=by
 refine Known.walk (B:=BT15) (fn:=Go.Proofs.Tryd.f15) BT15.ok (by kernel_rfl) rfl (by kernel_rfl) (by kernel_rfl) (by decide) ?_ ?_
 ·intro vs C r h
  simp only at h
  unfold ST15 at h
  split at h
  ·cases h; rfl
  ·cases h
 ·intro E args C r h hC hlen
  simp only at h
  unfold ST15 at h
  split at h
  rotate_left
  ·cases h
  skip
  cases h
  simp only [lens] at hlen
  refine ⟨show 0≤2 from by decide,?_⟩
  refine Tri.sub (Sub.of_eq (show _=([],[]) from rfl)) ?_
  refine sr [] none [] [] (TT∧True)
    ([],[])
    16 (⟨tt,trivial⟩) ?_
  refine sr [] none [0] [16] ((((((0 < 32)∧(1=1))∧(((1 < 32)∧(1=1))∧(((2 < 32)∧(1=1))∧(((3 < 32)∧(1=1))∧(((4 < 32)∧(1=1))∧(((5 < 32)∧(1=1))∧(((6 < 32)∧(1=1))∧(((7 < 32)∧(1=1))∧(((8 < 32)∧(1=1))∧(((9 < 32)∧(1=1))∧(((10 < 32)∧(1=1))∧(((11 < 32)∧(1=1))∧(((12 < 32)∧(1=1))∧(((13 < 32)∧(1=1))∧(((14 < 32)∧(1=1))∧(((15 < 32)∧(1=1))∧(((16 < 32)∧(1=1))∧(((17 < 32)∧(1=1))∧(((18 < 32)∧(1=1))∧(((19 < 32)∧(1=1))∧(((20 < 32)∧(1=1))∧(((21 < 32)∧(1=1))∧(((22 < 32)∧(1=1))∧(((23 < 32)∧(1=1))∧(((24 < 32)∧(1=1))∧(((25 < 32)∧(1=1))∧(((26 < 32)∧(1=1))∧(((27 < 32)∧(1=1))∧(((28 < 32)∧(1=1))∧(((29 < 32)∧(1=1))∧(((30 < 32)∧(1=1))∧(((31 < 32)∧(1=1))∧True))))))))))))))))))))))))))))))))∧((32 * 1≤16777216)∧(1=1)))∧True)∧(TT∧True))
    ([(0,.sc (.sl 16 0 32 1 none))],[(16,.ints .u8 32 [237,211,245,92,26,99,18,88,214,156,247,162,222,249,222,20,0,0,0,0,0,0,0,0,0,0,0,0,0,0,0,16])])
    48 (⟨⟨⟨⟨⟨(by omega),(rfl)⟩,⟨⟨(by omega),(rfl)⟩,⟨⟨(by omega),(rfl)⟩,⟨⟨(by omega),(rfl)⟩,⟨⟨(by omega),(rfl)⟩,⟨⟨(by omega),(rfl)⟩,⟨⟨(by omega),(rfl)⟩,⟨⟨(by omega),(rfl)⟩,⟨⟨(by omega),(rfl)⟩,⟨⟨(by omega),(rfl)⟩,⟨⟨(by omega),(rfl)⟩,⟨⟨(by omega),(rfl)⟩,⟨⟨(by omega),(rfl)⟩,⟨⟨(by omega),(rfl)⟩,⟨⟨(by omega),(rfl)⟩,⟨⟨(by omega),(rfl)⟩,⟨⟨(by omega),(rfl)⟩,⟨⟨(by omega),(rfl)⟩,⟨⟨(by omega),(rfl)⟩,⟨⟨(by omega),(rfl)⟩,⟨⟨(by omega),(rfl)⟩,⟨⟨(by omega),(rfl)⟩,⟨⟨(by omega),(rfl)⟩,⟨⟨(by omega),(rfl)⟩,⟨⟨(by omega),(rfl)⟩,⟨⟨(by omega),(rfl)⟩,⟨⟨(by omega),(rfl)⟩,⟨⟨(by omega),(rfl)⟩,⟨⟨(by omega),(rfl)⟩,⟨⟨(by omega),(rfl)⟩,⟨⟨(by omega),(rfl)⟩,⟨⟨(by omega),(rfl)⟩,trivial⟩⟩⟩⟩⟩⟩⟩⟩⟩⟩⟩⟩⟩⟩⟩⟩⟩⟩⟩⟩⟩⟩⟩⟩⟩⟩⟩⟩⟩⟩⟩⟩,⟨(by omega),(rfl)⟩⟩,trivial⟩,⟨tt,trivial⟩⟩) ?_
  refine Tri.ret ?_
  exact endP.ret [(16,0)] TT (by kernel_rfl) (by kernel_rfl) (by kernel_rfl) tt
noncomputable def FT41l0 (k0:Nat) (z0:Unit):Unit :=
 ()
noncomputable def FT41s0 (p0:List Int) (p1:List Int) (k0:Nat):Bool :=
 (sel ((p0.getD (32 - 1 - k0) 0:Int) != p1.getD (32 - 1 - k0) 0) true false)
noncomputable def FT41 (p0:List Int) (p1:List Int):Bool :=
 (sel (Nat.blt (fstB (FT41s0 p0 p1) 32) 32) (decide ((p0.getD (32 - 1 - (fstB (FT41s0 p0 p1) 32)) 0:Int) < p1.getD (32 - 1 - (fstB (FT41s0 p0 p1) 32)) 0)) false)
noncomputable def ST41:List AV→Option (Prop × Ret)
 | [.sc (.ro .u8 p0),.sc (.ro .u8 p1)] => some (p0.length=32∧p1.length=32,⟨.sc (.b (FT41 p0 p1)),[]⟩)
 | _ => none
noncomputable def BT41:Bs:={ P:=Go.Proofs.Tryd.prog,G:=gD,tab:=tabOf [],n:=28 }
theorem BT41.ok:BT41.Ok:=⟨tabOk (P:=Go.Proofs.Tryd.prog) (G:=gD) (l:=[]) True.intro,mixed⟩
theorem KT41:Known Go.Proofs.Tryd.prog gD 41 ⟨[.ro .u8,.ro .u8],0,ST41⟩:=by
 refine Known.walk (B:=BT41) (fn:=Go.Proofs.Tryd.f41) BT41.ok (by kernel_rfl) rfl (by kernel_rfl) (by kernel_rfl) (by decide) ?_ ?_
 ·intro vs C r h
  simp only at h
  unfold ST41 at h
  split at h
  ·cases h; rfl
  ·cases h
 ·intro E args C r h hC hlen
  simp only at h
  unfold ST41 at h
  split at h
  rotate_left
  ·cases h
  rename_i p0 p1
  cases h
  simp only [lens] at hlen
  refine ⟨show 2≤28 from by decide,?_⟩
  refine Tri.sub (Sub.of_eq (show _=([(0,qr p0),(1,qr p1)],[]) from rfl)) ?_
  refine sr [] none [0,1] [] (TT∧True)
    ([(0,qr p0),(1,qr p1)],[])
    16 (⟨tt,trivial⟩) ?_
  refine Tri.seq ?_
  refine sr [] none [5,0,1] [] (TT∧True)
    ([(5,qi 31),(0,qr p0),(1,qr p1)],[])
    32 (⟨tt,trivial⟩) ?_
  refine Tri.block ?_
  refine Tri.count 32 32 (FT41l0) (()) (fun k0 z0 => (∀ j,j < k0→(FT41s0 p0 p1) j=false)) (fun k0 z0 => ([(5,qi (((32:Nat):Int) - 1 - (k0:Int))),(0,qr p0),(1,qr p1)],[])) (fun j hj => absurd hj (Nat.not_lt_zero j)) (Sub.of_eq (by kernel_rfl)) ?_
  intro k0 z0 hk0 hz0 hJ0
  refine Tri.seq ?_
  refine sr [] none [7,5,0,1] [] (TT∧(TT∧True))
    ([(7,.sc (.b (decide (((((32:Nat):Int) - 1 - (k0:Int)):Int) ≥ 0)))),(5,qi (((32:Nat):Int) - 1 - (k0:Int))),(0,qr p0),(1,qr p1)],[])
    64 (⟨tt,⟨tt,trivial⟩⟩) ?_
  refine Tri.cond (x:=(decide (((((32:Nat):Int) - 1 - (k0:Int)):Int) ≥ 0))) (by kernel_rfl) (fun h1 => ?_) (fun h1 => ?_)
  ·
   have h1':=of_decide_eq_true h1
   refine Tri.skip ?_
   change Tri _ _ _ _ _ _
   refine Tri.seq ?_
   refine Tri.block ?_
   refine sr [(11,.i .i64 ((32 - 1 - k0:Nat):Int)),(15,.i .i64 ((32 - 1 - k0:Nat):Int))] (some [0,0,3,7,0,0,48,112,255]) [18,5,0,1] [] (TT∧((True∧((((32:Nat):Int) - 1 - (k0:Int))=((32 - 1 - k0:Nat):Int)))∧((((0:Int)≤((32 - 1 - k0:Nat):Int)∧((32 - 1 - k0:Nat):Int) < (p0.length:Int))∧True)∧(((32 - 1 - k0 < p0.length)∧True)∧(TT∧((True∧((((32:Nat):Int) - 1 - (k0:Int))=((32 - 1 - k0:Nat):Int)))∧((((0:Int)≤((32 - 1 - k0:Nat):Int)∧((32 - 1 - k0:Nat):Int) < (p1.length:Int))∧True)∧(((32 - 1 - k0 < p1.length)∧True)∧(TT∧True)))))))))
     ([(18,.sc (.b ((p0.getD (32 - 1 - k0) 0:Int) != p1.getD (32 - 1 - k0) 0))),(5,qi (((32:Nat):Int) - 1 - (k0:Int))),(0,qr p0),(1,qr p1)],[])
     208 (⟨tt,⟨⟨trivial,(dn_nat (by omega))⟩,⟨⟨(by omega),trivial⟩,⟨⟨(by omega),trivial⟩,⟨tt,⟨⟨trivial,(dn_nat (by omega))⟩,⟨⟨(by omega),trivial⟩,⟨⟨(by omega),trivial⟩,⟨tt,trivial⟩⟩⟩⟩⟩⟩⟩⟩⟩) ?_
   refine Tri.cond (x:=((p0.getD (32 - 1 - k0) 0:Int) != p1.getD (32 - 1 - k0) 0)) (by kernel_rfl) (fun h2 => ?_) (fun h2 => ?_)
   ·
    have h2':=ne_true_i h2
    refine sr [(20,.i .i64 ((32 - 1 - k0:Nat):Int)),(24,.i .i64 ((32 - 1 - k0:Nat):Int))] (some [0,0,3,7,0,0,48,112,255,511]) [4] [] (TT∧((True∧((((32:Nat):Int) - 1 - (k0:Int))=((32 - 1 - k0:Nat):Int)))∧((((0:Int)≤((32 - 1 - k0:Nat):Int)∧((32 - 1 - k0:Nat):Int) < (p0.length:Int))∧True)∧(((32 - 1 - k0 < p0.length)∧True)∧(TT∧((True∧((((32:Nat):Int) - 1 - (k0:Int))=((32 - 1 - k0:Nat):Int)))∧((((0:Int)≤((32 - 1 - k0:Nat):Int)∧((32 - 1 - k0:Nat):Int) < (p1.length:Int))∧True)∧(((32 - 1 - k0 < p1.length)∧True)∧(TT∧(TT∧True))))))))))
      ([(4,.sc (.b (decide ((p0.getD (32 - 1 - k0) 0:Int) < p1.getD (32 - 1 - k0) 0))))],[])
      368 (⟨tt,⟨⟨trivial,(dn_nat (by omega))⟩,⟨⟨(by omega),trivial⟩,⟨⟨(by omega),trivial⟩,⟨tt,⟨⟨trivial,(dn_nat (by omega))⟩,⟨⟨(by omega),trivial⟩,⟨⟨(by omega),trivial⟩,⟨tt,⟨tt,trivial⟩⟩⟩⟩⟩⟩⟩⟩⟩⟩) ?_
    refine Tri.ret ?_
    subst hz0
    have hf0:fstB (FT41s0 p0 p1) 32=k0:=fst_found (by omega) hJ0 (by simp only [FT41s0,h1,h2,sel_true,sel_false])
    have hb0:Nat.blt k0 32=true:=blt_true (by omega)
    have hq0:Nat.blt (fstB (FT41s0 p0 p1) 32) 32=true:=by rw [hf0]; exact hb0
    repeat (first | refine thenP_ret ?_ | refine blkP_ret ?_ | refine countP_ret ?_ | refine joinP_ret ?_)
    refine endP.conv (r':=⟨.sc (.b (decide ((p0.getD (32 - 1 - k0) 0:Int) < p1.getD (32 - 1 - k0) 0))),[]⟩) (by simp only [FT41,hq0,hf0,hb0,sel_true,sel_false]) ?_
    exact endP.ret [] TT (by kernel_rfl) (by kernel_rfl) (by kernel_rfl) tt
   ·
    have h2':=ne_false_i h2
    refine Tri.skip ?_
    change Tri _ _ _ _ _ _
    refine rr [(9,.i .i64 (((32:Nat):Int) - 1 - ((k0 + 1:Nat):Int)))] none [5,0,1] [] (TT∧((True∧((iSub .i64 (((32:Nat):Int) - 1 - (k0:Int)) 1)=(((32:Nat):Int) - 1 - ((k0 + 1:Nat):Int))))∧(TT∧True)))
      ([(5,qi (((32:Nat):Int) - 1 - ((k0 + 1:Nat):Int))),(0,qr p0),(1,qr p1)],[])
      256 (⟨tt,⟨⟨trivial,(iSub_dn (by omega) (by omega))⟩,⟨tt,trivial⟩⟩⟩) ?_
    repeat (refine blkP_normal ?_)
    refine countP_normal (by omega) (below_succ hJ0 (by subst hz0; simp only [FT41s0,h1,h2,sel_true,sel_false])) ?_
    exact Sub.ren (ns:=[]) (kf:=[5,0,1]) (by kernel_rfl) (by kernel_rfl)
  ·
   have h1':=of_decide_eq_false h1
   refine Tri.exit ?_
   have hend0:k0=32:=by (have:=of_decide_eq_false h1; omega)
   subst hend0; subst hz0
   have hf0:fstB (FT41s0 p0 p1) 32=32:=fst_none hJ0
   have hb0:Nat.blt 32 32=false:=blt_self _
   have hq0:Nat.blt (fstB (FT41s0 p0 p1) 32) 32=false:=by rw [hf0]; exact hb0
   change Tri _ _ _ _ _ _
   refine sr [] none [4] [] (TT∧True)
     ([(4,.sc (.b false))],[])
     80 (⟨tt,trivial⟩) ?_
   refine Tri.ret ?_
   repeat (first | refine thenP_ret ?_ | refine blkP_ret ?_ | refine countP_ret ?_ | refine joinP_ret ?_)
   refine endP.conv (r':=⟨.sc (.b false),[]⟩) (by simp only [FT41,hq0,hf0,hb0,sel_true,sel_false]) ?_
   exact endP.ret [] TT (by kernel_rfl) (by kernel_rfl) (by kernel_rfl) tt
noncomputable def FT32l2 (k2:Nat) (z2:Int × List Int):Int × List Int :=
 ((iQuo .i64 (iAdd .i64 (iMul .i64 2 (z2.2.getD k2 0)) z2.1) 256),z2.2.set k2 (iRem (iAdd .i64 (iMul .i64 2 (z2.2.getD k2 0)) z2.1) 256))
noncomputable def FT32l3 (p0:List Int) (k0:Nat) (k1:Nat) (z1:Nat × List Int) (k3:Nat) (z3:Int × List Int):Int × List Int :=
 ((sel (decide (((sel (decide (((k3:Int):Int) < 32)) (iSub .i64 (iSub .i64 (((itr (FT32l2) 33 ((iRem (iShr .i64 (IntKind.wrap .i64 (p0.getD (p0.length - 1 - k0) 0)) (((8:Nat):Int) - 1 - (k1:Int))) 2),z1.2)).2).getD k3 0) z3.1) (IntKind.wrap .i64 ([237,211,245,92,26,99,18,88,214,156,247,162,222,249,222,20,0,0,0,0,0,0,0,0,0,0,0,0,0,0,0,16].getD k3 0))) (iSub .i64 (((itr (FT32l2) 33 ((iRem (iShr .i64 (IntKind.wrap .i64 (p0.getD (p0.length - 1 - k0) 0)) (((8:Nat):Int) - 1 - (k1:Int))) 2),z1.2)).2).getD k3 0) z3.1)):Int) < 0)) 1 0),z3.2.set k3 (sel (decide (((sel (decide (((k3:Int):Int) < 32)) (iSub .i64 (iSub .i64 (((itr (FT32l2) 33 ((iRem (iShr .i64 (IntKind.wrap .i64 (p0.getD (p0.length - 1 - k0) 0)) (((8:Nat):Int) - 1 - (k1:Int))) 2),z1.2)).2).getD k3 0) z3.1) (IntKind.wrap .i64 ([237,211,245,92,26,99,18,88,214,156,247,162,222,249,222,20,0,0,0,0,0,0,0,0,0,0,0,0,0,0,0,16].getD k3 0))) (iSub .i64 (((itr (FT32l2) 33 ((iRem (iShr .i64 (IntKind.wrap .i64 (p0.getD (p0.length - 1 - k0) 0)) (((8:Nat):Int) - 1 - (k1:Int))) 2),z1.2)).2).getD k3 0) z3.1)):Int) < 0)) (iAdd .i64 (sel (decide (((k3:Int):Int) < 32)) (iSub .i64 (iSub .i64 (((itr (FT32l2) 33 ((iRem (iShr .i64 (IntKind.wrap .i64 (p0.getD (p0.length - 1 - k0) 0)) (((8:Nat):Int) - 1 - (k1:Int))) 2),z1.2)).2).getD k3 0) z3.1) (IntKind.wrap .i64 ([237,211,245,92,26,99,18,88,214,156,247,162,222,249,222,20,0,0,0,0,0,0,0,0,0,0,0,0,0,0,0,16].getD k3 0))) (iSub .i64 (((itr (FT32l2) 33 ((iRem (iShr .i64 (IntKind.wrap .i64 (p0.getD (p0.length - 1 - k0) 0)) (((8:Nat):Int) - 1 - (k1:Int))) 2),z1.2)).2).getD k3 0) z3.1)) 256) (sel (decide (((k3:Int):Int) < 32)) (iSub .i64 (iSub .i64 (((itr (FT32l2) 33 ((iRem (iShr .i64 (IntKind.wrap .i64 (p0.getD (p0.length - 1 - k0) 0)) (((8:Nat):Int) - 1 - (k1:Int))) 2),z1.2)).2).getD k3 0) z3.1) (IntKind.wrap .i64 ([237,211,245,92,26,99,18,88,214,156,247,162,222,249,222,20,0,0,0,0,0,0,0,0,0,0,0,0,0,0,0,16].getD k3 0))) (iSub .i64 (((itr (FT32l2) 33 ((iRem (iShr .i64 (IntKind.wrap .i64 (p0.getD (p0.length - 1 - k0) 0)) (((8:Nat):Int) - 1 - (k1:Int))) 2),z1.2)).2).getD k3 0) z3.1))))
noncomputable def FT32l1 (p0:List Int) (k0:Nat) (k1:Nat) (z1:Nat × List Int):Nat × List Int :=
 ((sel (((itr (FT32l3 p0 k0 k1 z1) 33 (0,List.replicate 33 0)).1:Int) == 0) 33 z1.1),(sel (((itr (FT32l3 p0 k0 k1 z1) 33 (0,List.replicate 33 0)).1:Int) == 0) ((itr (FT32l3 p0 k0 k1 z1) 33 (0,List.replicate 33 0)).2) ((itr (FT32l2) 33 ((iRem (iShr .i64 (IntKind.wrap .i64 (p0.getD (p0.length - 1 - k0) 0)) (((8:Nat):Int) - 1 - (k1:Int))) 2),z1.2)).2)))
noncomputable def FT32l0 (p0:List Int) (k0:Nat) (z0:Nat × List Int):Nat × List Int :=
 ((itr (FT32l1 p0 k0) 8 (z0.1,z0.2)).1,(itr (FT32l1 p0 k0) 8 (z0.1,z0.2)).2)
noncomputable def FT32l4 (p0:List Int) (k4:Nat) (z4:List Int):List Int :=
 z4.set k4 (IntKind.wrap .u8 (((itr (FT32l0 p0) p0.length (33,List.replicate 33 0)).2).getD k4 0))
noncomputable def FT32 (p0:List Int):List Int :=
 (itr (FT32l4 p0) 32 (List.replicate 32 0))
noncomputable def ST32:List AV→Option (Prop × Ret)
 | [.sc (.ro .u8 p0)] => some (p0.length≤1000,⟨.sc (.sl 0 0 32 1 none),[.ints .u8 32 (FT32 p0)]⟩)
 | _ => none
noncomputable def BT32:Bs:={ P:=Go.Proofs.Tryd.prog,G:=gD,tab:=tabOf [(15,⟨[],1,ST15⟩)],n:=100 }
theorem BT32.ok:BT32.Ok:=⟨tabOk (P:=Go.Proofs.Tryd.prog) (G:=gD) (l:=[(15,⟨[],1,ST15⟩)]) (And.intro KT15 True.intro),mixed⟩
theorem KT32:Known Go.Proofs.Tryd.prog gD 32 ⟨[.ro .u8],1,ST32⟩:=by
 refine Known.walk (B:=BT32) (fn:=Go.Proofs.Tryd.f32) BT32.ok (by kernel_rfl) rfl (by kernel_rfl) (by kernel_rfl) (by decide) ?_ ?_
 ·intro vs C r h
  simp only at h
  unfold ST32 at h
  split at h
  ·cases h; rfl
  ·cases h
 ·intro E args C r h hC hlen
  simp only at h
  unfold ST32 at h
  split at h
  rotate_left
  ·cases h
  rename_i p0
  cases h
  simp only [lens] at hlen
  refine ⟨show 1≤100 from by decide,?_⟩
  refine Tri.sub (Sub.of_eq (show _=([(0,qr p0)],[]) from rfl)) ?_
  refine sr [] none [0] [] (TT∧True)
    ([(0,qr p0)],[])
    16 (⟨tt,trivial⟩) ?_
  refine sr [] none [3,0] [16] (((((0:Int)≤33∧(33:Int)=33)∧((33≤(140737488355328:Int))∧(((8:Nat):Int) * 33≤281474976710656)))∧True)∧(TT∧True))
    ([(3,.sc (.sl 16 0 33 1 none)),(0,qr p0)],[(16,.ints .i64 33 (List.replicate 33 0))])
    48 (⟨⟨⟨(by omega),⟨(by omega),(by omega)⟩⟩,trivial⟩,⟨tt,trivial⟩⟩) ?_
  refine sr [] none [4,3,0] [48,16] ((TT∧True)∧(TT∧True))
    ([(4,.sc (.sl 48 0 32 1 none)),(3,.sc (.sl 16 0 33 1 none)),(0,qr p0)],[(48,.ints .u8 32 [237,211,245,92,26,99,18,88,214,156,247,162,222,249,222,20,0,0,0,0,0,0,0,0,0,0,0,0,0,0,0,16]),(16,.ints .i64 33 (List.replicate 33 0))])
    80 (⟨⟨tt,trivial⟩,⟨tt,trivial⟩⟩) ?_
  refine Tri.seq ?_
  refine sr [(20,.i .i64 ((p0.length:Int) - 1 - ((0:Nat):Int)))] none [5,4,3,0] [48,16] (TT∧(TT∧((True∧((iSub .i64 (p0.length:Int) 1)=((p0.length:Int) - 1 - ((0:Nat):Int))))∧(TT∧True))))
    ([(5,qi ((p0.length:Int) - 1 - ((0:Nat):Int))),(4,.sc (.sl 48 0 32 1 none)),(3,.sc (.sl 16 0 33 1 none)),(0,qr p0)],[(48,.ints .u8 32 [237,211,245,92,26,99,18,88,214,156,247,162,222,249,222,20,0,0,0,0,0,0,0,0,0,0,0,0,0,0,0,16]),(16,.ints .i64 33 (List.replicate 33 0))])
    144 (⟨tt,⟨tt,⟨⟨trivial,(iSub_dn0 (by omega))⟩,⟨tt,trivial⟩⟩⟩⟩) ?_
  refine Tri.block ?_
  refine Tri.count 144 p0.length (FT32l0 p0) (33,List.replicate 33 0) (fun k0 z0 => z0.1=33) (fun k0 z0 => ([(5,qi ((p0.length:Int) - 1 - (k0:Int))),(4,.sc (.sl 48 0 32 1 none)),(3,.sc (.sl 16 0 z0.1 1 none)),(0,qr p0)],[(48,.ints .u8 32 [237,211,245,92,26,99,18,88,214,156,247,162,222,249,222,20,0,0,0,0,0,0,0,0,0,0,0,0,0,0,0,16]),(16,.ints .i64 z0.1 z0.2)])) rfl (Sub.of_eq (by kernel_rfl)) ?_
  intro k0 z0 hk0 hz0 hJ0
  refine Tri.seq ?_
  refine sr [] none [22,5,4,3,0] [48,16] (TT∧(TT∧True))
    ([(22,.sc (.b (decide ((((p0.length:Int) - 1 - (k0:Int)):Int) ≥ 0)))),(5,qi ((p0.length:Int) - 1 - (k0:Int))),(4,.sc (.sl 48 0 32 1 none)),(3,.sc (.sl 16 0 z0.1 1 none)),(0,qr p0)],[(48,.ints .u8 32 [237,211,245,92,26,99,18,88,214,156,247,162,222,249,222,20,0,0,0,0,0,0,0,0,0,0,0,0,0,0,0,16]),(16,.ints .i64 z0.1 z0.2)])
    176 (⟨tt,⟨tt,trivial⟩⟩) ?_
  refine Tri.cond (x:=(decide ((((p0.length:Int) - 1 - (k0:Int)):Int) ≥ 0))) (by kernel_rfl) (fun h1 => ?_) (fun h1 => ?_)
  ·
   have h1':=of_decide_eq_true h1
   refine Tri.skip ?_
   change Tri _ _ _ _ _ _
   refine Tri.seq ?_
   refine Tri.block ?_
   refine sr [] none [6,5,4,3,0] [48,16] (TT∧True)
     ([(6,qi 7),(5,qi ((p0.length:Int) - 1 - (k0:Int))),(4,.sc (.sl 48 0 32 1 none)),(3,.sc (.sl 16 0 z0.1 1 none)),(0,qr p0)],[(48,.ints .u8 32 [237,211,245,92,26,99,18,88,214,156,247,162,222,249,222,20,0,0,0,0,0,0,0,0,0,0,0,0,0,0,0,16]),(16,.ints .i64 z0.1 z0.2)])
     192 (⟨tt,trivial⟩) ?_
   refine Tri.block ?_
   refine Tri.count 192 8 (FT32l1 p0 k0) (z0.1,z0.2) (fun k1 z1 => z1.1=33) (fun k1 z1 => ([(6,qi (((8:Nat):Int) - 1 - (k1:Int))),(5,qi ((p0.length:Int) - 1 - (k0:Int))),(4,.sc (.sl 48 0 32 1 none)),(3,.sc (.sl 16 0 z1.1 1 none)),(0,qr p0)],[(48,.ints .u8 32 [237,211,245,92,26,99,18,88,214,156,247,162,222,249,222,20,0,0,0,0,0,0,0,0,0,0,0,0,0,0,0,16]),(16,.ints .i64 z1.1 z1.2)])) hJ0 (Sub.of_eq (by kernel_rfl)) ?_
   intro k1 z1 hk1 hz1 hJ1
   refine Tri.seq ?_
   refine sr [] none [26,6,5,4,3,0] [48,16] (TT∧(TT∧True))
     ([(26,.sc (.b (decide (((((8:Nat):Int) - 1 - (k1:Int)):Int) ≥ 0)))),(6,qi (((8:Nat):Int) - 1 - (k1:Int))),(5,qi ((p0.length:Int) - 1 - (k0:Int))),(4,.sc (.sl 48 0 32 1 none)),(3,.sc (.sl 16 0 z1.1 1 none)),(0,qr p0)],[(48,.ints .u8 32 [237,211,245,92,26,99,18,88,214,156,247,162,222,249,222,20,0,0,0,0,0,0,0,0,0,0,0,0,0,0,0,16]),(16,.ints .i64 z1.1 z1.2)])
     224 (⟨tt,⟨tt,trivial⟩⟩) ?_
   refine Tri.cond (x:=(decide (((((8:Nat):Int) - 1 - (k1:Int)):Int) ≥ 0))) (by kernel_rfl) (fun h2 => ?_) (fun h2 => ?_)
   ·
    have h2':=of_decide_eq_true h2
    refine Tri.skip ?_
    change Tri _ _ _ _ _ _
    refine Tri.seq ?_
    refine Tri.block ?_
    refine sr [(30,.i .i64 ((p0.length - 1 - k0:Nat):Int))] none [7,6,5,4,3,0] [48,16] (TT∧((True∧(((p0.length:Int) - 1 - (k0:Int))=((p0.length - 1 - k0:Nat):Int)))∧((((0:Int)≤((p0.length - 1 - k0:Nat):Int)∧((p0.length - 1 - k0:Nat):Int) < (p0.length:Int))∧True)∧(((p0.length - 1 - k0 < p0.length)∧True)∧(TT∧(TT∧((((0:Int)≤(((8:Nat):Int) - 1 - (k1:Int)))∧True)∧(((2 ≠ (0:Int))∧True)∧(TT∧True)))))))))
      ([(7,qi (iRem (iShr .i64 (IntKind.wrap .i64 (p0.getD (p0.length - 1 - k0) 0)) (((8:Nat):Int) - 1 - (k1:Int))) 2)),(6,qi (((8:Nat):Int) - 1 - (k1:Int))),(5,qi ((p0.length:Int) - 1 - (k0:Int))),(4,.sc (.sl 48 0 32 1 none)),(3,.sc (.sl 16 0 z1.1 1 none)),(0,qr p0)],[(48,.ints .u8 32 [237,211,245,92,26,99,18,88,214,156,247,162,222,249,222,20,0,0,0,0,0,0,0,0,0,0,0,0,0,0,0,16]),(16,.ints .i64 z1.1 z1.2)])
      368 (⟨tt,⟨⟨trivial,(dn_nat (by omega))⟩,⟨⟨(by omega),trivial⟩,⟨⟨(by omega),trivial⟩,⟨tt,⟨tt,⟨⟨(by omega),trivial⟩,⟨⟨(by omega),trivial⟩,⟨tt,trivial⟩⟩⟩⟩⟩⟩⟩⟩⟩) ?_
    refine Tri.seq ?_
    refine sr [] none [8,7,6,5,4,3,0] [48,16] (TT∧True)
      ([(8,qi 0),(7,qi (iRem (iShr .i64 (IntKind.wrap .i64 (p0.getD (p0.length - 1 - k0) 0)) (((8:Nat):Int) - 1 - (k1:Int))) 2)),(6,qi (((8:Nat):Int) - 1 - (k1:Int))),(5,qi ((p0.length:Int) - 1 - (k0:Int))),(4,.sc (.sl 48 0 32 1 none)),(3,.sc (.sl 16 0 z1.1 1 none)),(0,qr p0)],[(48,.ints .u8 32 [237,211,245,92,26,99,18,88,214,156,247,162,222,249,222,20,0,0,0,0,0,0,0,0,0,0,0,0,0,0,0,16]),(16,.ints .i64 z1.1 z1.2)])
      384 (⟨tt,trivial⟩) ?_
    refine Tri.block ?_
    refine Tri.count 384 33 (FT32l2) ((iRem (iShr .i64 (IntKind.wrap .i64 (p0.getD (p0.length - 1 - k0) 0)) (((8:Nat):Int) - 1 - (k1:Int))) 2),z1.2) (fun k2 z2 => True) (fun k2 z2 => ([(8,qi (k2:Int)),(7,qi z2.1),(6,qi (((8:Nat):Int) - 1 - (k1:Int))),(5,qi ((p0.length:Int) - 1 - (k0:Int))),(4,.sc (.sl 48 0 32 1 none)),(3,.sc (.sl 16 0 z1.1 1 none)),(0,qr p0)],[(48,.ints .u8 32 [237,211,245,92,26,99,18,88,214,156,247,162,222,249,222,20,0,0,0,0,0,0,0,0,0,0,0,0,0,0,0,16]),(16,.ints .i64 z1.1 z2.2)])) trivial (Sub.of_eq (by kernel_rfl)) ?_
    intro k2 z2 hk2 hz2 hJ2
    refine Tri.seq ?_
    refine sr [] none [38,8,7,6,5,4,3,0] [48,16] (TT∧(TT∧True))
      ([(38,.sc (.b (decide (((k2:Int):Int) < 33)))),(8,qi (k2:Int)),(7,qi z2.1),(6,qi (((8:Nat):Int) - 1 - (k1:Int))),(5,qi ((p0.length:Int) - 1 - (k0:Int))),(4,.sc (.sl 48 0 32 1 none)),(3,.sc (.sl 16 0 z1.1 1 none)),(0,qr p0)],[(48,.ints .u8 32 [237,211,245,92,26,99,18,88,214,156,247,162,222,249,222,20,0,0,0,0,0,0,0,0,0,0,0,0,0,0,0,16]),(16,.ints .i64 z1.1 z2.2)])
      416 (⟨tt,⟨tt,trivial⟩⟩) ?_
    refine Tri.cond (x:=(decide (((k2:Int):Int) < 33))) (by kernel_rfl) (fun h3 => ?_) (fun h3 => ?_)
    ·
     have h3':=of_decide_eq_true h3
     refine Tri.skip ?_
     change Tri _ _ _ _ _ _
     refine Tri.seq ?_
     refine Tri.block ?_
     refine sr [] none [9,8,6,5,4,3,0] [48,16] (TT∧(TT∧((((0:Int)≤(k2:Int)∧(k2:Int) < ((z1.1:Nat):Int))∧True)∧(((k2 < z1.1)∧True)∧(TT∧(TT∧(TT∧(TT∧True))))))))
       ([(9,qi (iAdd .i64 (iMul .i64 2 (z2.2.getD k2 0)) z2.1)),(8,qi (k2:Int)),(6,qi (((8:Nat):Int) - 1 - (k1:Int))),(5,qi ((p0.length:Int) - 1 - (k0:Int))),(4,.sc (.sl 48 0 32 1 none)),(3,.sc (.sl 16 0 z1.1 1 none)),(0,qr p0)],[(48,.ints .u8 32 [237,211,245,92,26,99,18,88,214,156,247,162,222,249,222,20,0,0,0,0,0,0,0,0,0,0,0,0,0,0,0,16]),(16,.ints .i64 z1.1 z2.2)])
       544 (⟨tt,⟨tt,⟨⟨(by omega),trivial⟩,⟨⟨(by omega),trivial⟩,⟨tt,⟨tt,⟨tt,⟨tt,trivial⟩⟩⟩⟩⟩⟩⟩⟩) ?_
     refine sr [] none [9,8,6,5,4,3,0] [16,48] (TT∧(TT∧(TT∧(((256 ≠ (0:Int))∧True)∧((((0:Int)≤(k2:Int)∧(k2:Int) < ((z1.1:Nat):Int))∧True)∧((((k2 < z1.1)∧(1=1))∧True)∧True))))))
       ([(9,qi (iAdd .i64 (iMul .i64 2 (z2.2.getD k2 0)) z2.1)),(8,qi (k2:Int)),(6,qi (((8:Nat):Int) - 1 - (k1:Int))),(5,qi ((p0.length:Int) - 1 - (k0:Int))),(4,.sc (.sl 48 0 32 1 none)),(3,.sc (.sl 16 0 z1.1 1 none)),(0,qr p0)],[(16,.ints .i64 z1.1 (z2.2.set k2 (iRem (iAdd .i64 (iMul .i64 2 (z2.2.getD k2 0)) z2.1) 256))),(48,.ints .u8 32 [237,211,245,92,26,99,18,88,214,156,247,162,222,249,222,20,0,0,0,0,0,0,0,0,0,0,0,0,0,0,0,16])])
       640 (⟨tt,⟨tt,⟨tt,⟨⟨(by omega),trivial⟩,⟨⟨(by omega),trivial⟩,⟨⟨⟨(by omega),(rfl)⟩,trivial⟩,trivial⟩⟩⟩⟩⟩⟩) ?_
     refine rr [] none [7,8,6,5,4,3,0] [16,48] (TT∧(((256 ≠ (0:Int))∧True)∧(TT∧True)))
       ([(7,qi (iQuo .i64 (iAdd .i64 (iMul .i64 2 (z2.2.getD k2 0)) z2.1) 256)),(8,qi (k2:Int)),(6,qi (((8:Nat):Int) - 1 - (k1:Int))),(5,qi ((p0.length:Int) - 1 - (k0:Int))),(4,.sc (.sl 48 0 32 1 none)),(3,.sc (.sl 16 0 z1.1 1 none)),(0,qr p0)],[(16,.ints .i64 z1.1 (z2.2.set k2 (iRem (iAdd .i64 (iMul .i64 2 (z2.2.getD k2 0)) z2.1) 256))),(48,.ints .u8 32 [237,211,245,92,26,99,18,88,214,156,247,162,222,249,222,20,0,0,0,0,0,0,0,0,0,0,0,0,0,0,0,16])])
       688 (⟨tt,⟨⟨(by omega),trivial⟩,⟨tt,trivial⟩⟩⟩) ?_
     change Tri _ _ _ _ _ _
     refine rr [(40,.i .i64 ((k2 + 1:Nat):Int))] none [8,7,6,5,4,3,0] [16,48] (TT∧((True∧((iAdd .i64 (k2:Int) 1)=((k2 + 1:Nat):Int)))∧(TT∧True)))
       ([(8,qi ((k2 + 1:Nat):Int)),(7,qi (iQuo .i64 (iAdd .i64 (iMul .i64 2 (z2.2.getD k2 0)) z2.1) 256)),(6,qi (((8:Nat):Int) - 1 - (k1:Int))),(5,qi ((p0.length:Int) - 1 - (k0:Int))),(4,.sc (.sl 48 0 32 1 none)),(3,.sc (.sl 16 0 z1.1 1 none)),(0,qr p0)],[(16,.ints .i64 z1.1 (z2.2.set k2 (iRem (iAdd .i64 (iMul .i64 2 (z2.2.getD k2 0)) z2.1) 256))),(48,.ints .u8 32 [237,211,245,92,26,99,18,88,214,156,247,162,222,249,222,20,0,0,0,0,0,0,0,0,0,0,0,0,0,0,0,16])])
       736 (⟨tt,⟨⟨trivial,(iAdd_nat (a:=k2) (b:=1) (by omega))⟩,⟨tt,trivial⟩⟩⟩) ?_
     repeat (refine blkP_normal ?_)
     refine countP_normal (by omega) trivial ?_
     exact Sub.ren (ns:=[(48,48),(16,16)]) (kf:=[8,7,6,5,4,3,0]) (by kernel_rfl) (by kernel_rfl)
    ·
     have h3':=of_decide_eq_false h3
     refine Tri.exit ?_
     have hend2:k2=33:=by (have:=of_decide_eq_false h3; omega)
     subst hend2; subst hz2
     change Tri _ _ _ _ _ _
     refine sr [] none [10,6,5,4,3,0] [416,48,16] (((((0:Int)≤33∧(33:Int)=33)∧((33≤(140737488355328:Int))∧(((8:Nat):Int) * 33≤281474976710656)))∧True)∧(TT∧True))
       ([(10,.sc (.sl 416 0 33 1 none)),(6,qi (((8:Nat):Int) - 1 - (k1:Int))),(5,qi ((p0.length:Int) - 1 - (k0:Int))),(4,.sc (.sl 48 0 32 1 none)),(3,.sc (.sl 16 0 z1.1 1 none)),(0,qr p0)],[(416,.ints .i64 33 (List.replicate 33 0)),(48,.ints .u8 32 [237,211,245,92,26,99,18,88,214,156,247,162,222,249,222,20,0,0,0,0,0,0,0,0,0,0,0,0,0,0,0,16]),(16,.ints .i64 z1.1 ((itr (FT32l2) 33 ((iRem (iShr .i64 (IntKind.wrap .i64 (p0.getD (p0.length - 1 - k0) 0)) (((8:Nat):Int) - 1 - (k1:Int))) 2),z1.2)).2))])
       448 (⟨⟨⟨(by omega),⟨(by omega),(by omega)⟩⟩,trivial⟩,⟨tt,trivial⟩⟩) ?_
     refine sr [] none [11,10,6,5,4,3,0] [416,48,16] (TT∧True)
       ([(11,qi 0),(10,.sc (.sl 416 0 33 1 none)),(6,qi (((8:Nat):Int) - 1 - (k1:Int))),(5,qi ((p0.length:Int) - 1 - (k0:Int))),(4,.sc (.sl 48 0 32 1 none)),(3,.sc (.sl 16 0 z1.1 1 none)),(0,qr p0)],[(416,.ints .i64 33 (List.replicate 33 0)),(48,.ints .u8 32 [237,211,245,92,26,99,18,88,214,156,247,162,222,249,222,20,0,0,0,0,0,0,0,0,0,0,0,0,0,0,0,16]),(16,.ints .i64 z1.1 ((itr (FT32l2) 33 ((iRem (iShr .i64 (IntKind.wrap .i64 (p0.getD (p0.length - 1 - k0) 0)) (((8:Nat):Int) - 1 - (k1:Int))) 2),z1.2)).2))])
       464 (⟨tt,trivial⟩) ?_
     refine Tri.seq ?_
     refine sr [] none [12,11,10,6,5,4,3,0] [416,48,16] (TT∧True)
       ([(12,qi 0),(11,qi 0),(10,.sc (.sl 416 0 33 1 none)),(6,qi (((8:Nat):Int) - 1 - (k1:Int))),(5,qi ((p0.length:Int) - 1 - (k0:Int))),(4,.sc (.sl 48 0 32 1 none)),(3,.sc (.sl 16 0 z1.1 1 none)),(0,qr p0)],[(416,.ints .i64 33 (List.replicate 33 0)),(48,.ints .u8 32 [237,211,245,92,26,99,18,88,214,156,247,162,222,249,222,20,0,0,0,0,0,0,0,0,0,0,0,0,0,0,0,16]),(16,.ints .i64 z1.1 ((itr (FT32l2) 33 ((iRem (iShr .i64 (IntKind.wrap .i64 (p0.getD (p0.length - 1 - k0) 0)) (((8:Nat):Int) - 1 - (k1:Int))) 2),z1.2)).2))])
       480 (⟨tt,trivial⟩) ?_
     refine Tri.block ?_
     refine Tri.count 480 33 (FT32l3 p0 k0 k1 z1) (0,List.replicate 33 0) (fun k3 z3 => True) (fun k3 z3 => ([(12,qi (k3:Int)),(11,qi z3.1),(10,.sc (.sl 416 0 33 1 none)),(6,qi (((8:Nat):Int) - 1 - (k1:Int))),(5,qi ((p0.length:Int) - 1 - (k0:Int))),(4,.sc (.sl 48 0 32 1 none)),(3,.sc (.sl 16 0 z1.1 1 none)),(0,qr p0)],[(416,.ints .i64 33 z3.2),(48,.ints .u8 32 [237,211,245,92,26,99,18,88,214,156,247,162,222,249,222,20,0,0,0,0,0,0,0,0,0,0,0,0,0,0,0,16]),(16,.ints .i64 z1.1 ((itr (FT32l2) 33 ((iRem (iShr .i64 (IntKind.wrap .i64 (p0.getD (p0.length - 1 - k0) 0)) (((8:Nat):Int) - 1 - (k1:Int))) 2),z1.2)).2))])) trivial (Sub.of_eq (by kernel_rfl)) ?_
     intro k3 z3 hk3 hz3 hJ3
     refine Tri.seq ?_
     refine sr [] none [57,12,11,10,6,5,4,3,0] [416,48,16] (TT∧(TT∧True))
       ([(57,.sc (.b (decide (((k3:Int):Int) < 33)))),(12,qi (k3:Int)),(11,qi z3.1),(10,.sc (.sl 416 0 33 1 none)),(6,qi (((8:Nat):Int) - 1 - (k1:Int))),(5,qi ((p0.length:Int) - 1 - (k0:Int))),(4,.sc (.sl 48 0 32 1 none)),(3,.sc (.sl 16 0 z1.1 1 none)),(0,qr p0)],[(416,.ints .i64 33 z3.2),(48,.ints .u8 32 [237,211,245,92,26,99,18,88,214,156,247,162,222,249,222,20,0,0,0,0,0,0,0,0,0,0,0,0,0,0,0,16]),(16,.ints .i64 z1.1 ((itr (FT32l2) 33 ((iRem (iShr .i64 (IntKind.wrap .i64 (p0.getD (p0.length - 1 - k0) 0)) (((8:Nat):Int) - 1 - (k1:Int))) 2),z1.2)).2))])
       512 (⟨tt,⟨tt,trivial⟩⟩) ?_
     refine Tri.cond (x:=(decide (((k3:Int):Int) < 33))) (by kernel_rfl) (fun h4 => ?_) (fun h4 => ?_)
     ·
      have h4':=of_decide_eq_true h4
      refine Tri.skip ?_
      change Tri _ _ _ _ _ _
      refine Tri.seq ?_
      refine Tri.block ?_
      refine sr [] none [13,12,10,6,5,4,3,0] [416,48,16] (TT∧(TT∧((((0:Int)≤(k3:Int)∧(k3:Int) < ((z1.1:Nat):Int))∧True)∧(((k3 < z1.1)∧True)∧(TT∧(TT∧(TT∧True)))))))
        ([(13,qi (iSub .i64 (((itr (FT32l2) 33 ((iRem (iShr .i64 (IntKind.wrap .i64 (p0.getD (p0.length - 1 - k0) 0)) (((8:Nat):Int) - 1 - (k1:Int))) 2),z1.2)).2).getD k3 0) z3.1)),(12,qi (k3:Int)),(10,.sc (.sl 416 0 33 1 none)),(6,qi (((8:Nat):Int) - 1 - (k1:Int))),(5,qi ((p0.length:Int) - 1 - (k0:Int))),(4,.sc (.sl 48 0 32 1 none)),(3,.sc (.sl 16 0 z1.1 1 none)),(0,qr p0)],[(416,.ints .i64 33 z3.2),(48,.ints .u8 32 [237,211,245,92,26,99,18,88,214,156,247,162,222,249,222,20,0,0,0,0,0,0,0,0,0,0,0,0,0,0,0,16]),(16,.ints .i64 z1.1 ((itr (FT32l2) 33 ((iRem (iShr .i64 (IntKind.wrap .i64 (p0.getD (p0.length - 1 - k0) 0)) (((8:Nat):Int) - 1 - (k1:Int))) 2),z1.2)).2))])
        624 (⟨tt,⟨tt,⟨⟨(by omega),trivial⟩,⟨⟨(by omega),trivial⟩,⟨tt,⟨tt,⟨tt,trivial⟩⟩⟩⟩⟩⟩⟩) ?_
      refine Tri.seq ?_
      refine sr [] none [67,13,12,10,6,5,4,3,0] [416,48,16] (TT∧(TT∧True))
        ([(67,.sc (.b (decide (((k3:Int):Int) < 32)))),(13,qi (iSub .i64 (((itr (FT32l2) 33 ((iRem (iShr .i64 (IntKind.wrap .i64 (p0.getD (p0.length - 1 - k0) 0)) (((8:Nat):Int) - 1 - (k1:Int))) 2),z1.2)).2).getD k3 0) z3.1)),(12,qi (k3:Int)),(10,.sc (.sl 416 0 33 1 none)),(6,qi (((8:Nat):Int) - 1 - (k1:Int))),(5,qi ((p0.length:Int) - 1 - (k0:Int))),(4,.sc (.sl 48 0 32 1 none)),(3,.sc (.sl 16 0 z1.1 1 none)),(0,qr p0)],[(416,.ints .i64 33 z3.2),(48,.ints .u8 32 [237,211,245,92,26,99,18,88,214,156,247,162,222,249,222,20,0,0,0,0,0,0,0,0,0,0,0,0,0,0,0,16]),(16,.ints .i64 z1.1 ((itr (FT32l2) 33 ((iRem (iShr .i64 (IntKind.wrap .i64 (p0.getD (p0.length - 1 - k0) 0)) (((8:Nat):Int) - 1 - (k1:Int))) 2),z1.2)).2))])
        656 (⟨tt,⟨tt,trivial⟩⟩) ?_
      refine Tri.join (x:=(decide (((k3:Int):Int) < 32))) (fun bb => ([(13,qi (sel bb (iSub .i64 (iSub .i64 (((itr (FT32l2) 33 ((iRem (iShr .i64 (IntKind.wrap .i64 (p0.getD (p0.length - 1 - k0) 0)) (((8:Nat):Int) - 1 - (k1:Int))) 2),z1.2)).2).getD k3 0) z3.1) (IntKind.wrap .i64 ([237,211,245,92,26,99,18,88,214,156,247,162,222,249,222,20,0,0,0,0,0,0,0,0,0,0,0,0,0,0,0,16].getD k3 0))) (iSub .i64 (((itr (FT32l2) 33 ((iRem (iShr .i64 (IntKind.wrap .i64 (p0.getD (p0.length - 1 - k0) 0)) (((8:Nat):Int) - 1 - (k1:Int))) 2),z1.2)).2).getD k3 0) z3.1))),(12,qi (k3:Int)),(10,.sc (.sl 416 0 33 1 none)),(6,qi (((8:Nat):Int) - 1 - (k1:Int))),(5,qi ((p0.length:Int) - 1 - (k0:Int))),(4,.sc (.sl 48 0 32 1 none)),(3,.sc (.sl 16 0 z1.1 1 none)),(0,qr p0)],[(416,.ints .i64 33 z3.2),(48,.ints .u8 32 [237,211,245,92,26,99,18,88,214,156,247,162,222,249,222,20,0,0,0,0,0,0,0,0,0,0,0,0,0,0,0,16]),(16,.ints .i64 z1.1 ((itr (FT32l2) 33 ((iRem (iShr .i64 (IntKind.wrap .i64 (p0.getD (p0.length - 1 - k0) 0)) (((8:Nat):Int) - 1 - (k1:Int))) 2),z1.2)).2))])) 784 (by kernel_rfl) (fun h5 => ?_) (fun h5 => ?_) ?_
      ·
       have h5':=of_decide_eq_true h5
       refine rr [] none [13,12,10,6,5,4,3,0] [416,48,16] (TT∧(TT∧(TT∧((((0:Int)≤(k3:Int)∧(k3:Int) < ((32:Nat):Int))∧True)∧(((k3 < 32)∧True)∧(TT∧(TT∧(TT∧True))))))))
         ([(13,qi (iSub .i64 (iSub .i64 (((itr (FT32l2) 33 ((iRem (iShr .i64 (IntKind.wrap .i64 (p0.getD (p0.length - 1 - k0) 0)) (((8:Nat):Int) - 1 - (k1:Int))) 2),z1.2)).2).getD k3 0) z3.1) (IntKind.wrap .i64 ([237,211,245,92,26,99,18,88,214,156,247,162,222,249,222,20,0,0,0,0,0,0,0,0,0,0,0,0,0,0,0,16].getD k3 0)))),(12,qi (k3:Int)),(10,.sc (.sl 416 0 33 1 none)),(6,qi (((8:Nat):Int) - 1 - (k1:Int))),(5,qi ((p0.length:Int) - 1 - (k0:Int))),(4,.sc (.sl 48 0 32 1 none)),(3,.sc (.sl 16 0 z1.1 1 none)),(0,qr p0)],[(416,.ints .i64 33 z3.2),(48,.ints .u8 32 [237,211,245,92,26,99,18,88,214,156,247,162,222,249,222,20,0,0,0,0,0,0,0,0,0,0,0,0,0,0,0,16]),(16,.ints .i64 z1.1 ((itr (FT32l2) 33 ((iRem (iShr .i64 (IntKind.wrap .i64 (p0.getD (p0.length - 1 - k0) 0)) (((8:Nat):Int) - 1 - (k1:Int))) 2),z1.2)).2))])
         784 (⟨tt,⟨tt,⟨tt,⟨⟨(by omega),trivial⟩,⟨⟨(by omega),trivial⟩,⟨tt,⟨tt,⟨tt,trivial⟩⟩⟩⟩⟩⟩⟩⟩) ?_
       exact (Sub.ren (ns:=[(416,416),(48,48),(16,16)]) (kf:=[13,12,10,6,5,4,3,0]) (s':=([(13,qi (iSub .i64 (iSub .i64 (((itr (FT32l2) 33 ((iRem (iShr .i64 (IntKind.wrap .i64 (p0.getD (p0.length - 1 - k0) 0)) (((8:Nat):Int) - 1 - (k1:Int))) 2),z1.2)).2).getD k3 0) z3.1) (IntKind.wrap .i64 ([237,211,245,92,26,99,18,88,214,156,247,162,222,249,222,20,0,0,0,0,0,0,0,0,0,0,0,0,0,0,0,16].getD k3 0)))),(12,qi (k3:Int)),(10,.sc (.sl 416 0 33 1 none)),(6,qi (((8:Nat):Int) - 1 - (k1:Int))),(5,qi ((p0.length:Int) - 1 - (k0:Int))),(4,.sc (.sl 48 0 32 1 none)),(3,.sc (.sl 16 0 z1.1 1 none)),(0,qr p0)],[(416,.ints .i64 33 z3.2),(48,.ints .u8 32 [237,211,245,92,26,99,18,88,214,156,247,162,222,249,222,20,0,0,0,0,0,0,0,0,0,0,0,0,0,0,0,16]),(16,.ints .i64 z1.1 ((itr (FT32l2) 33 ((iRem (iShr .i64 (IntKind.wrap .i64 (p0.getD (p0.length - 1 - k0) 0)) (((8:Nat):Int) - 1 - (k1:Int))) 2),z1.2)).2))])) (by kernel_rfl) (by kernel_rfl)).trans (Sub.of_eq (by simp only [sel_true,sel_false]))
      ·
       have h5':=of_decide_eq_false h5
       refine Tri.skip ?_
       exact (Sub.ren (ns:=[(416,416),(48,48),(16,16)]) (kf:=[13,12,10,6,5,4,3,0]) (s':=([(13,qi (iSub .i64 (((itr (FT32l2) 33 ((iRem (iShr .i64 (IntKind.wrap .i64 (p0.getD (p0.length - 1 - k0) 0)) (((8:Nat):Int) - 1 - (k1:Int))) 2),z1.2)).2).getD k3 0) z3.1)),(12,qi (k3:Int)),(10,.sc (.sl 416 0 33 1 none)),(6,qi (((8:Nat):Int) - 1 - (k1:Int))),(5,qi ((p0.length:Int) - 1 - (k0:Int))),(4,.sc (.sl 48 0 32 1 none)),(3,.sc (.sl 16 0 z1.1 1 none)),(0,qr p0)],[(416,.ints .i64 33 z3.2),(48,.ints .u8 32 [237,211,245,92,26,99,18,88,214,156,247,162,222,249,222,20,0,0,0,0,0,0,0,0,0,0,0,0,0,0,0,16]),(16,.ints .i64 z1.1 ((itr (FT32l2) 33 ((iRem (iShr .i64 (IntKind.wrap .i64 (p0.getD (p0.length - 1 - k0) 0)) (((8:Nat):Int) - 1 - (k1:Int))) 2),z1.2)).2))])) (by kernel_rfl) (by kernel_rfl)).trans (Sub.of_eq (by simp only [sel_true,sel_false]))
      ·
       change Tri _ _ _ _ _ _
       refine sr [] none [11,13,12,10,6,5,4,3,0] [416,48,16] (TT∧True)
         ([(11,qi 0),(13,qi (sel (decide (((k3:Int):Int) < 32)) (iSub .i64 (iSub .i64 (((itr (FT32l2) 33 ((iRem (iShr .i64 (IntKind.wrap .i64 (p0.getD (p0.length - 1 - k0) 0)) (((8:Nat):Int) - 1 - (k1:Int))) 2),z1.2)).2).getD k3 0) z3.1) (IntKind.wrap .i64 ([237,211,245,92,26,99,18,88,214,156,247,162,222,249,222,20,0,0,0,0,0,0,0,0,0,0,0,0,0,0,0,16].getD k3 0))) (iSub .i64 (((itr (FT32l2) 33 ((iRem (iShr .i64 (IntKind.wrap .i64 (p0.getD (p0.length - 1 - k0) 0)) (((8:Nat):Int) - 1 - (k1:Int))) 2),z1.2)).2).getD k3 0) z3.1))),(12,qi (k3:Int)),(10,.sc (.sl 416 0 33 1 none)),(6,qi (((8:Nat):Int) - 1 - (k1:Int))),(5,qi ((p0.length:Int) - 1 - (k0:Int))),(4,.sc (.sl 48 0 32 1 none)),(3,.sc (.sl 16 0 z1.1 1 none)),(0,qr p0)],[(416,.ints .i64 33 z3.2),(48,.ints .u8 32 [237,211,245,92,26,99,18,88,214,156,247,162,222,249,222,20,0,0,0,0,0,0,0,0,0,0,0,0,0,0,0,16]),(16,.ints .i64 z1.1 ((itr (FT32l2) 33 ((iRem (iShr .i64 (IntKind.wrap .i64 (p0.getD (p0.length - 1 - k0) 0)) (((8:Nat):Int) - 1 - (k1:Int))) 2),z1.2)).2))])
         800 (⟨tt,trivial⟩) ?_
       refine Tri.seq ?_
       refine sr [] none [76,11,13,12,10,6,5,4,3,0] [416,48,16] (TT∧(TT∧True))
         ([(76,.sc (.b (decide (((sel (decide (((k3:Int):Int) < 32)) (iSub .i64 (iSub .i64 (((itr (FT32l2) 33 ((iRem (iShr .i64 (IntKind.wrap .i64 (p0.getD (p0.length - 1 - k0) 0)) (((8:Nat):Int) - 1 - (k1:Int))) 2),z1.2)).2).getD k3 0) z3.1) (IntKind.wrap .i64 ([237,211,245,92,26,99,18,88,214,156,247,162,222,249,222,20,0,0,0,0,0,0,0,0,0,0,0,0,0,0,0,16].getD k3 0))) (iSub .i64 (((itr (FT32l2) 33 ((iRem (iShr .i64 (IntKind.wrap .i64 (p0.getD (p0.length - 1 - k0) 0)) (((8:Nat):Int) - 1 - (k1:Int))) 2),z1.2)).2).getD k3 0) z3.1)):Int) < 0)))),(11,qi 0),(13,qi (sel (decide (((k3:Int):Int) < 32)) (iSub .i64 (iSub .i64 (((itr (FT32l2) 33 ((iRem (iShr .i64 (IntKind.wrap .i64 (p0.getD (p0.length - 1 - k0) 0)) (((8:Nat):Int) - 1 - (k1:Int))) 2),z1.2)).2).getD k3 0) z3.1) (IntKind.wrap .i64 ([237,211,245,92,26,99,18,88,214,156,247,162,222,249,222,20,0,0,0,0,0,0,0,0,0,0,0,0,0,0,0,16].getD k3 0))) (iSub .i64 (((itr (FT32l2) 33 ((iRem (iShr .i64 (IntKind.wrap .i64 (p0.getD (p0.length - 1 - k0) 0)) (((8:Nat):Int) - 1 - (k1:Int))) 2),z1.2)).2).getD k3 0) z3.1))),(12,qi (k3:Int)),(10,.sc (.sl 416 0 33 1 none)),(6,qi (((8:Nat):Int) - 1 - (k1:Int))),(5,qi ((p0.length:Int) - 1 - (k0:Int))),(4,.sc (.sl 48 0 32 1 none)),(3,.sc (.sl 16 0 z1.1 1 none)),(0,qr p0)],[(416,.ints .i64 33 z3.2),(48,.ints .u8 32 [237,211,245,92,26,99,18,88,214,156,247,162,222,249,222,20,0,0,0,0,0,0,0,0,0,0,0,0,0,0,0,16]),(16,.ints .i64 z1.1 ((itr (FT32l2) 33 ((iRem (iShr .i64 (IntKind.wrap .i64 (p0.getD (p0.length - 1 - k0) 0)) (((8:Nat):Int) - 1 - (k1:Int))) 2),z1.2)).2))])
         832 (⟨tt,⟨tt,trivial⟩⟩) ?_
       refine Tri.join (x:=(decide (((sel (decide (((k3:Int):Int) < 32)) (iSub .i64 (iSub .i64 (((itr (FT32l2) 33 ((iRem (iShr .i64 (IntKind.wrap .i64 (p0.getD (p0.length - 1 - k0) 0)) (((8:Nat):Int) - 1 - (k1:Int))) 2),z1.2)).2).getD k3 0) z3.1) (IntKind.wrap .i64 ([237,211,245,92,26,99,18,88,214,156,247,162,222,249,222,20,0,0,0,0,0,0,0,0,0,0,0,0,0,0,0,16].getD k3 0))) (iSub .i64 (((itr (FT32l2) 33 ((iRem (iShr .i64 (IntKind.wrap .i64 (p0.getD (p0.length - 1 - k0) 0)) (((8:Nat):Int) - 1 - (k1:Int))) 2),z1.2)).2).getD k3 0) z3.1)):Int) < 0))) (fun bb => ([(11,qi (sel bb 1 0)),(13,qi (sel bb (iAdd .i64 (sel (decide (((k3:Int):Int) < 32)) (iSub .i64 (iSub .i64 (((itr (FT32l2) 33 ((iRem (iShr .i64 (IntKind.wrap .i64 (p0.getD (p0.length - 1 - k0) 0)) (((8:Nat):Int) - 1 - (k1:Int))) 2),z1.2)).2).getD k3 0) z3.1) (IntKind.wrap .i64 ([237,211,245,92,26,99,18,88,214,156,247,162,222,249,222,20,0,0,0,0,0,0,0,0,0,0,0,0,0,0,0,16].getD k3 0))) (iSub .i64 (((itr (FT32l2) 33 ((iRem (iShr .i64 (IntKind.wrap .i64 (p0.getD (p0.length - 1 - k0) 0)) (((8:Nat):Int) - 1 - (k1:Int))) 2),z1.2)).2).getD k3 0) z3.1)) 256) (sel (decide (((k3:Int):Int) < 32)) (iSub .i64 (iSub .i64 (((itr (FT32l2) 33 ((iRem (iShr .i64 (IntKind.wrap .i64 (p0.getD (p0.length - 1 - k0) 0)) (((8:Nat):Int) - 1 - (k1:Int))) 2),z1.2)).2).getD k3 0) z3.1) (IntKind.wrap .i64 ([237,211,245,92,26,99,18,88,214,156,247,162,222,249,222,20,0,0,0,0,0,0,0,0,0,0,0,0,0,0,0,16].getD k3 0))) (iSub .i64 (((itr (FT32l2) 33 ((iRem (iShr .i64 (IntKind.wrap .i64 (p0.getD (p0.length - 1 - k0) 0)) (((8:Nat):Int) - 1 - (k1:Int))) 2),z1.2)).2).getD k3 0) z3.1)))),(12,qi (k3:Int)),(10,.sc (.sl 416 0 33 1 none)),(6,qi (((8:Nat):Int) - 1 - (k1:Int))),(5,qi ((p0.length:Int) - 1 - (k0:Int))),(4,.sc (.sl 48 0 32 1 none)),(3,.sc (.sl 16 0 z1.1 1 none)),(0,qr p0)],[(416,.ints .i64 33 z3.2),(48,.ints .u8 32 [237,211,245,92,26,99,18,88,214,156,247,162,222,249,222,20,0,0,0,0,0,0,0,0,0,0,0,0,0,0,0,16]),(16,.ints .i64 z1.1 ((itr (FT32l2) 33 ((iRem (iShr .i64 (IntKind.wrap .i64 (p0.getD (p0.length - 1 - k0) 0)) (((8:Nat):Int) - 1 - (k1:Int))) 2),z1.2)).2))])) 896 (by kernel_rfl) (fun h6 => ?_) (fun h6 => ?_) ?_
       ·
        have h6':=of_decide_eq_true h6
        refine sr [] none [13,12,10,6,5,4,3,0] [416,48,16] (TT∧(TT∧(TT∧True)))
          ([(13,qi (iAdd .i64 (sel (decide (((k3:Int):Int) < 32)) (iSub .i64 (iSub .i64 (((itr (FT32l2) 33 ((iRem (iShr .i64 (IntKind.wrap .i64 (p0.getD (p0.length - 1 - k0) 0)) (((8:Nat):Int) - 1 - (k1:Int))) 2),z1.2)).2).getD k3 0) z3.1) (IntKind.wrap .i64 ([237,211,245,92,26,99,18,88,214,156,247,162,222,249,222,20,0,0,0,0,0,0,0,0,0,0,0,0,0,0,0,16].getD k3 0))) (iSub .i64 (((itr (FT32l2) 33 ((iRem (iShr .i64 (IntKind.wrap .i64 (p0.getD (p0.length - 1 - k0) 0)) (((8:Nat):Int) - 1 - (k1:Int))) 2),z1.2)).2).getD k3 0) z3.1)) 256)),(12,qi (k3:Int)),(10,.sc (.sl 416 0 33 1 none)),(6,qi (((8:Nat):Int) - 1 - (k1:Int))),(5,qi ((p0.length:Int) - 1 - (k0:Int))),(4,.sc (.sl 48 0 32 1 none)),(3,.sc (.sl 16 0 z1.1 1 none)),(0,qr p0)],[(416,.ints .i64 33 z3.2),(48,.ints .u8 32 [237,211,245,92,26,99,18,88,214,156,247,162,222,249,222,20,0,0,0,0,0,0,0,0,0,0,0,0,0,0,0,16]),(16,.ints .i64 z1.1 ((itr (FT32l2) 33 ((iRem (iShr .i64 (IntKind.wrap .i64 (p0.getD (p0.length - 1 - k0) 0)) (((8:Nat):Int) - 1 - (k1:Int))) 2),z1.2)).2))])
          880 (⟨tt,⟨tt,⟨tt,trivial⟩⟩⟩) ?_
        refine rr [] none [11,13,12,10,6,5,4,3,0] [416,48,16] (TT∧True)
          ([(11,qi 1),(13,qi (iAdd .i64 (sel (decide (((k3:Int):Int) < 32)) (iSub .i64 (iSub .i64 (((itr (FT32l2) 33 ((iRem (iShr .i64 (IntKind.wrap .i64 (p0.getD (p0.length - 1 - k0) 0)) (((8:Nat):Int) - 1 - (k1:Int))) 2),z1.2)).2).getD k3 0) z3.1) (IntKind.wrap .i64 ([237,211,245,92,26,99,18,88,214,156,247,162,222,249,222,20,0,0,0,0,0,0,0,0,0,0,0,0,0,0,0,16].getD k3 0))) (iSub .i64 (((itr (FT32l2) 33 ((iRem (iShr .i64 (IntKind.wrap .i64 (p0.getD (p0.length - 1 - k0) 0)) (((8:Nat):Int) - 1 - (k1:Int))) 2),z1.2)).2).getD k3 0) z3.1)) 256)),(12,qi (k3:Int)),(10,.sc (.sl 416 0 33 1 none)),(6,qi (((8:Nat):Int) - 1 - (k1:Int))),(5,qi ((p0.length:Int) - 1 - (k0:Int))),(4,.sc (.sl 48 0 32 1 none)),(3,.sc (.sl 16 0 z1.1 1 none)),(0,qr p0)],[(416,.ints .i64 33 z3.2),(48,.ints .u8 32 [237,211,245,92,26,99,18,88,214,156,247,162,222,249,222,20,0,0,0,0,0,0,0,0,0,0,0,0,0,0,0,16]),(16,.ints .i64 z1.1 ((itr (FT32l2) 33 ((iRem (iShr .i64 (IntKind.wrap .i64 (p0.getD (p0.length - 1 - k0) 0)) (((8:Nat):Int) - 1 - (k1:Int))) 2),z1.2)).2))])
          896 (⟨tt,trivial⟩) ?_
        exact (Sub.ren (ns:=[(416,416),(48,48),(16,16)]) (kf:=[11,13,12,10,6,5,4,3,0]) (s':=([(11,qi 1),(13,qi (iAdd .i64 (sel (decide (((k3:Int):Int) < 32)) (iSub .i64 (iSub .i64 (((itr (FT32l2) 33 ((iRem (iShr .i64 (IntKind.wrap .i64 (p0.getD (p0.length - 1 - k0) 0)) (((8:Nat):Int) - 1 - (k1:Int))) 2),z1.2)).2).getD k3 0) z3.1) (IntKind.wrap .i64 ([237,211,245,92,26,99,18,88,214,156,247,162,222,249,222,20,0,0,0,0,0,0,0,0,0,0,0,0,0,0,0,16].getD k3 0))) (iSub .i64 (((itr (FT32l2) 33 ((iRem (iShr .i64 (IntKind.wrap .i64 (p0.getD (p0.length - 1 - k0) 0)) (((8:Nat):Int) - 1 - (k1:Int))) 2),z1.2)).2).getD k3 0) z3.1)) 256)),(12,qi (k3:Int)),(10,.sc (.sl 416 0 33 1 none)),(6,qi (((8:Nat):Int) - 1 - (k1:Int))),(5,qi ((p0.length:Int) - 1 - (k0:Int))),(4,.sc (.sl 48 0 32 1 none)),(3,.sc (.sl 16 0 z1.1 1 none)),(0,qr p0)],[(416,.ints .i64 33 z3.2),(48,.ints .u8 32 [237,211,245,92,26,99,18,88,214,156,247,162,222,249,222,20,0,0,0,0,0,0,0,0,0,0,0,0,0,0,0,16]),(16,.ints .i64 z1.1 ((itr (FT32l2) 33 ((iRem (iShr .i64 (IntKind.wrap .i64 (p0.getD (p0.length - 1 - k0) 0)) (((8:Nat):Int) - 1 - (k1:Int))) 2),z1.2)).2))])) (by kernel_rfl) (by kernel_rfl)).trans (Sub.of_eq (by simp only [sel_true,sel_false]))
       ·
        have h6':=of_decide_eq_false h6
        refine Tri.skip ?_
        exact (Sub.ren (ns:=[(416,416),(48,48),(16,16)]) (kf:=[11,13,12,10,6,5,4,3,0]) (s':=([(11,qi 0),(13,qi (sel (decide (((k3:Int):Int) < 32)) (iSub .i64 (iSub .i64 (((itr (FT32l2) 33 ((iRem (iShr .i64 (IntKind.wrap .i64 (p0.getD (p0.length - 1 - k0) 0)) (((8:Nat):Int) - 1 - (k1:Int))) 2),z1.2)).2).getD k3 0) z3.1) (IntKind.wrap .i64 ([237,211,245,92,26,99,18,88,214,156,247,162,222,249,222,20,0,0,0,0,0,0,0,0,0,0,0,0,0,0,0,16].getD k3 0))) (iSub .i64 (((itr (FT32l2) 33 ((iRem (iShr .i64 (IntKind.wrap .i64 (p0.getD (p0.length - 1 - k0) 0)) (((8:Nat):Int) - 1 - (k1:Int))) 2),z1.2)).2).getD k3 0) z3.1))),(12,qi (k3:Int)),(10,.sc (.sl 416 0 33 1 none)),(6,qi (((8:Nat):Int) - 1 - (k1:Int))),(5,qi ((p0.length:Int) - 1 - (k0:Int))),(4,.sc (.sl 48 0 32 1 none)),(3,.sc (.sl 16 0 z1.1 1 none)),(0,qr p0)],[(416,.ints .i64 33 z3.2),(48,.ints .u8 32 [237,211,245,92,26,99,18,88,214,156,247,162,222,249,222,20,0,0,0,0,0,0,0,0,0,0,0,0,0,0,0,16]),(16,.ints .i64 z1.1 ((itr (FT32l2) 33 ((iRem (iShr .i64 (IntKind.wrap .i64 (p0.getD (p0.length - 1 - k0) 0)) (((8:Nat):Int) - 1 - (k1:Int))) 2),z1.2)).2))])) (by kernel_rfl) (by kernel_rfl)).trans (Sub.of_eq (by simp only [sel_true,sel_false]))
       ·
        change Tri _ _ _ _ _ _
        refine rr [] none [11,12,10,6,5,4,3,0] [416,48,16] (TT∧(TT∧(TT∧((((0:Int)≤(k3:Int)∧(k3:Int) < ((33:Nat):Int))∧True)∧((((k3 < 33)∧(1=1))∧True)∧True)))))
          ([(11,qi (sel (decide (((sel (decide (((k3:Int):Int) < 32)) (iSub .i64 (iSub .i64 (((itr (FT32l2) 33 ((iRem (iShr .i64 (IntKind.wrap .i64 (p0.getD (p0.length - 1 - k0) 0)) (((8:Nat):Int) - 1 - (k1:Int))) 2),z1.2)).2).getD k3 0) z3.1) (IntKind.wrap .i64 ([237,211,245,92,26,99,18,88,214,156,247,162,222,249,222,20,0,0,0,0,0,0,0,0,0,0,0,0,0,0,0,16].getD k3 0))) (iSub .i64 (((itr (FT32l2) 33 ((iRem (iShr .i64 (IntKind.wrap .i64 (p0.getD (p0.length - 1 - k0) 0)) (((8:Nat):Int) - 1 - (k1:Int))) 2),z1.2)).2).getD k3 0) z3.1)):Int) < 0)) 1 0)),(12,qi (k3:Int)),(10,.sc (.sl 416 0 33 1 none)),(6,qi (((8:Nat):Int) - 1 - (k1:Int))),(5,qi ((p0.length:Int) - 1 - (k0:Int))),(4,.sc (.sl 48 0 32 1 none)),(3,.sc (.sl 16 0 z1.1 1 none)),(0,qr p0)],[(416,.ints .i64 33 (z3.2.set k3 (sel (decide (((sel (decide (((k3:Int):Int) < 32)) (iSub .i64 (iSub .i64 (((itr (FT32l2) 33 ((iRem (iShr .i64 (IntKind.wrap .i64 (p0.getD (p0.length - 1 - k0) 0)) (((8:Nat):Int) - 1 - (k1:Int))) 2),z1.2)).2).getD k3 0) z3.1) (IntKind.wrap .i64 ([237,211,245,92,26,99,18,88,214,156,247,162,222,249,222,20,0,0,0,0,0,0,0,0,0,0,0,0,0,0,0,16].getD k3 0))) (iSub .i64 (((itr (FT32l2) 33 ((iRem (iShr .i64 (IntKind.wrap .i64 (p0.getD (p0.length - 1 - k0) 0)) (((8:Nat):Int) - 1 - (k1:Int))) 2),z1.2)).2).getD k3 0) z3.1)):Int) < 0)) (iAdd .i64 (sel (decide (((k3:Int):Int) < 32)) (iSub .i64 (iSub .i64 (((itr (FT32l2) 33 ((iRem (iShr .i64 (IntKind.wrap .i64 (p0.getD (p0.length - 1 - k0) 0)) (((8:Nat):Int) - 1 - (k1:Int))) 2),z1.2)).2).getD k3 0) z3.1) (IntKind.wrap .i64 ([237,211,245,92,26,99,18,88,214,156,247,162,222,249,222,20,0,0,0,0,0,0,0,0,0,0,0,0,0,0,0,16].getD k3 0))) (iSub .i64 (((itr (FT32l2) 33 ((iRem (iShr .i64 (IntKind.wrap .i64 (p0.getD (p0.length - 1 - k0) 0)) (((8:Nat):Int) - 1 - (k1:Int))) 2),z1.2)).2).getD k3 0) z3.1)) 256) (sel (decide (((k3:Int):Int) < 32)) (iSub .i64 (iSub .i64 (((itr (FT32l2) 33 ((iRem (iShr .i64 (IntKind.wrap .i64 (p0.getD (p0.length - 1 - k0) 0)) (((8:Nat):Int) - 1 - (k1:Int))) 2),z1.2)).2).getD k3 0) z3.1) (IntKind.wrap .i64 ([237,211,245,92,26,99,18,88,214,156,247,162,222,249,222,20,0,0,0,0,0,0,0,0,0,0,0,0,0,0,0,16].getD k3 0))) (iSub .i64 (((itr (FT32l2) 33 ((iRem (iShr .i64 (IntKind.wrap .i64 (p0.getD (p0.length - 1 - k0) 0)) (((8:Nat):Int) - 1 - (k1:Int))) 2),z1.2)).2).getD k3 0) z3.1))))),(48,.ints .u8 32 [237,211,245,92,26,99,18,88,214,156,247,162,222,249,222,20,0,0,0,0,0,0,0,0,0,0,0,0,0,0,0,16]),(16,.ints .i64 z1.1 ((itr (FT32l2) 33 ((iRem (iShr .i64 (IntKind.wrap .i64 (p0.getD (p0.length - 1 - k0) 0)) (((8:Nat):Int) - 1 - (k1:Int))) 2),z1.2)).2))])
          976 (⟨tt,⟨tt,⟨tt,⟨⟨(by omega),trivial⟩,⟨⟨⟨(by omega),(rfl)⟩,trivial⟩,trivial⟩⟩⟩⟩⟩) ?_
        change Tri _ _ _ _ _ _
        refine rr [(59,.i .i64 ((k3 + 1:Nat):Int))] none [12,11,10,6,5,4,3,0] [416,48,16] (TT∧((True∧((iAdd .i64 (k3:Int) 1)=((k3 + 1:Nat):Int)))∧(TT∧True)))
          ([(12,qi ((k3 + 1:Nat):Int)),(11,qi (sel (decide (((sel (decide (((k3:Int):Int) < 32)) (iSub .i64 (iSub .i64 (((itr (FT32l2) 33 ((iRem (iShr .i64 (IntKind.wrap .i64 (p0.getD (p0.length - 1 - k0) 0)) (((8:Nat):Int) - 1 - (k1:Int))) 2),z1.2)).2).getD k3 0) z3.1) (IntKind.wrap .i64 ([237,211,245,92,26,99,18,88,214,156,247,162,222,249,222,20,0,0,0,0,0,0,0,0,0,0,0,0,0,0,0,16].getD k3 0))) (iSub .i64 (((itr (FT32l2) 33 ((iRem (iShr .i64 (IntKind.wrap .i64 (p0.getD (p0.length - 1 - k0) 0)) (((8:Nat):Int) - 1 - (k1:Int))) 2),z1.2)).2).getD k3 0) z3.1)):Int) < 0)) 1 0)),(10,.sc (.sl 416 0 33 1 none)),(6,qi (((8:Nat):Int) - 1 - (k1:Int))),(5,qi ((p0.length:Int) - 1 - (k0:Int))),(4,.sc (.sl 48 0 32 1 none)),(3,.sc (.sl 16 0 z1.1 1 none)),(0,qr p0)],[(416,.ints .i64 33 (z3.2.set k3 (sel (decide (((sel (decide (((k3:Int):Int) < 32)) (iSub .i64 (iSub .i64 (((itr (FT32l2) 33 ((iRem (iShr .i64 (IntKind.wrap .i64 (p0.getD (p0.length - 1 - k0) 0)) (((8:Nat):Int) - 1 - (k1:Int))) 2),z1.2)).2).getD k3 0) z3.1) (IntKind.wrap .i64 ([237,211,245,92,26,99,18,88,214,156,247,162,222,249,222,20,0,0,0,0,0,0,0,0,0,0,0,0,0,0,0,16].getD k3 0))) (iSub .i64 (((itr (FT32l2) 33 ((iRem (iShr .i64 (IntKind.wrap .i64 (p0.getD (p0.length - 1 - k0) 0)) (((8:Nat):Int) - 1 - (k1:Int))) 2),z1.2)).2).getD k3 0) z3.1)):Int) < 0)) (iAdd .i64 (sel (decide (((k3:Int):Int) < 32)) (iSub .i64 (iSub .i64 (((itr (FT32l2) 33 ((iRem (iShr .i64 (IntKind.wrap .i64 (p0.getD (p0.length - 1 - k0) 0)) (((8:Nat):Int) - 1 - (k1:Int))) 2),z1.2)).2).getD k3 0) z3.1) (IntKind.wrap .i64 ([237,211,245,92,26,99,18,88,214,156,247,162,222,249,222,20,0,0,0,0,0,0,0,0,0,0,0,0,0,0,0,16].getD k3 0))) (iSub .i64 (((itr (FT32l2) 33 ((iRem (iShr .i64 (IntKind.wrap .i64 (p0.getD (p0.length - 1 - k0) 0)) (((8:Nat):Int) - 1 - (k1:Int))) 2),z1.2)).2).getD k3 0) z3.1)) 256) (sel (decide (((k3:Int):Int) < 32)) (iSub .i64 (iSub .i64 (((itr (FT32l2) 33 ((iRem (iShr .i64 (IntKind.wrap .i64 (p0.getD (p0.length - 1 - k0) 0)) (((8:Nat):Int) - 1 - (k1:Int))) 2),z1.2)).2).getD k3 0) z3.1) (IntKind.wrap .i64 ([237,211,245,92,26,99,18,88,214,156,247,162,222,249,222,20,0,0,0,0,0,0,0,0,0,0,0,0,0,0,0,16].getD k3 0))) (iSub .i64 (((itr (FT32l2) 33 ((iRem (iShr .i64 (IntKind.wrap .i64 (p0.getD (p0.length - 1 - k0) 0)) (((8:Nat):Int) - 1 - (k1:Int))) 2),z1.2)).2).getD k3 0) z3.1))))),(48,.ints .u8 32 [237,211,245,92,26,99,18,88,214,156,247,162,222,249,222,20,0,0,0,0,0,0,0,0,0,0,0,0,0,0,0,16]),(16,.ints .i64 z1.1 ((itr (FT32l2) 33 ((iRem (iShr .i64 (IntKind.wrap .i64 (p0.getD (p0.length - 1 - k0) 0)) (((8:Nat):Int) - 1 - (k1:Int))) 2),z1.2)).2))])
          1024 (⟨tt,⟨⟨trivial,(iAdd_nat (a:=k3) (b:=1) (by omega))⟩,⟨tt,trivial⟩⟩⟩) ?_
        repeat (refine blkP_normal ?_)
        refine countP_normal (by omega) trivial ?_
        exact Sub.ren (ns:=[(416,416),(48,48),(16,16)]) (kf:=[12,11,10,6,5,4,3,0]) (by kernel_rfl) (by kernel_rfl)
     ·
      have h4':=of_decide_eq_false h4
      refine Tri.exit ?_
      have hend3:k3=33:=by (have:=of_decide_eq_false h4; omega)
      subst hend3; subst hz3
      change Tri _ _ _ _ _ _
      refine sr [] none [84,10,6,5,4,3,0] [416,48,16] (TT∧(TT∧True))
        ([(84,.sc (.b (((itr (FT32l3 p0 k0 k1 z1) 33 (0,List.replicate 33 0)).1:Int) == 0))),(10,.sc (.sl 416 0 33 1 none)),(6,qi (((8:Nat):Int) - 1 - (k1:Int))),(5,qi ((p0.length:Int) - 1 - (k0:Int))),(4,.sc (.sl 48 0 32 1 none)),(3,.sc (.sl 16 0 z1.1 1 none)),(0,qr p0)],[(416,.ints .i64 33 ((itr (FT32l3 p0 k0 k1 z1) 33 (0,List.replicate 33 0)).2)),(48,.ints .u8 32 [237,211,245,92,26,99,18,88,214,156,247,162,222,249,222,20,0,0,0,0,0,0,0,0,0,0,0,0,0,0,0,16]),(16,.ints .i64 z1.1 ((itr (FT32l2) 33 ((iRem (iShr .i64 (IntKind.wrap .i64 (p0.getD (p0.length - 1 - k0) 0)) (((8:Nat):Int) - 1 - (k1:Int))) 2),z1.2)).2))])
        544 (⟨tt,⟨tt,trivial⟩⟩) ?_
      refine Tri.cond (x:=(((itr (FT32l3 p0 k0 k1 z1) 33 (0,List.replicate 33 0)).1:Int) == 0)) (by kernel_rfl) (fun h7 => ?_) (fun h7 => ?_)
      ·
       have h7':=eq_true_i h7
       refine rr [] none [3,6,5,4,0] [416,48] (TT∧(TT∧True))
         ([(3,.sc (.sl 416 0 33 1 none)),(6,qi (((8:Nat):Int) - 1 - (k1:Int))),(5,qi ((p0.length:Int) - 1 - (k0:Int))),(4,.sc (.sl 48 0 32 1 none)),(0,qr p0)],[(416,.ints .i64 33 ((itr (FT32l3 p0 k0 k1 z1) 33 (0,List.replicate 33 0)).2)),(48,.ints .u8 32 [237,211,245,92,26,99,18,88,214,156,247,162,222,249,222,20,0,0,0,0,0,0,0,0,0,0,0,0,0,0,0,16])])
         576 (⟨tt,⟨tt,trivial⟩⟩) ?_
       change Tri _ _ _ _ _ _
       refine rr [(28,.i .i64 (((8:Nat):Int) - 1 - ((k1 + 1:Nat):Int)))] none [6,3,5,4,0] [416,48] (TT∧((True∧((iSub .i64 (((8:Nat):Int) - 1 - (k1:Int)) 1)=(((8:Nat):Int) - 1 - ((k1 + 1:Nat):Int))))∧(TT∧True)))
         ([(6,qi (((8:Nat):Int) - 1 - ((k1 + 1:Nat):Int))),(3,.sc (.sl 416 0 33 1 none)),(5,qi ((p0.length:Int) - 1 - (k0:Int))),(4,.sc (.sl 48 0 32 1 none)),(0,qr p0)],[(416,.ints .i64 33 ((itr (FT32l3 p0 k0 k1 z1) 33 (0,List.replicate 33 0)).2)),(48,.ints .u8 32 [237,211,245,92,26,99,18,88,214,156,247,162,222,249,222,20,0,0,0,0,0,0,0,0,0,0,0,0,0,0,0,16])])
         624 (⟨tt,⟨⟨trivial,(iSub_dn (by omega) (by omega))⟩,⟨tt,trivial⟩⟩⟩) ?_
       repeat (refine blkP_normal ?_)
       refine countP_normal (by omega) (show sel _ 33 z1.1=33 by rw [hJ1]; exact sel_id _ _) ?_
       exact (Sub.ren (ns:=[(48,48),(416,16)]) (kf:=[6,5,4,3,0]) (s':=([(6,qi (((8:Nat):Int) - 1 - ((k1 + 1:Nat):Int))),(5,qi ((p0.length:Int) - 1 - (k0:Int))),(4,.sc (.sl 48 0 32 1 none)),(3,.sc (.sl 16 0 33 1 none)),(0,qr p0)],[(48,.ints .u8 32 [237,211,245,92,26,99,18,88,214,156,247,162,222,249,222,20,0,0,0,0,0,0,0,0,0,0,0,0,0,0,0,16]),(16,.ints .i64 33 ((itr (FT32l3 p0 k0 k1 z1) 33 (0,List.replicate 33 0)).2))])) (by kernel_rfl) (by kernel_rfl)).trans (Sub.of_eq (by simp only [FT32l1,h1,h2,h7,sel_true,sel_false]))
      ·
       have h7':=eq_false_i h7
       refine Tri.skip ?_
       change Tri _ _ _ _ _ _
       refine rr [(28,.i .i64 (((8:Nat):Int) - 1 - ((k1 + 1:Nat):Int)))] none [6,5,4,3,0] [48,16] (TT∧((True∧((iSub .i64 (((8:Nat):Int) - 1 - (k1:Int)) 1)=(((8:Nat):Int) - 1 - ((k1 + 1:Nat):Int))))∧(TT∧True)))
         ([(6,qi (((8:Nat):Int) - 1 - ((k1 + 1:Nat):Int))),(5,qi ((p0.length:Int) - 1 - (k0:Int))),(4,.sc (.sl 48 0 32 1 none)),(3,.sc (.sl 16 0 z1.1 1 none)),(0,qr p0)],[(48,.ints .u8 32 [237,211,245,92,26,99,18,88,214,156,247,162,222,249,222,20,0,0,0,0,0,0,0,0,0,0,0,0,0,0,0,16]),(16,.ints .i64 z1.1 ((itr (FT32l2) 33 ((iRem (iShr .i64 (IntKind.wrap .i64 (p0.getD (p0.length - 1 - k0) 0)) (((8:Nat):Int) - 1 - (k1:Int))) 2),z1.2)).2))])
         592 (⟨tt,⟨⟨trivial,(iSub_dn (by omega) (by omega))⟩,⟨tt,trivial⟩⟩⟩) ?_
       repeat (refine blkP_normal ?_)
       refine countP_normal (by omega) (show sel _ 33 z1.1=33 by rw [hJ1]; exact sel_id _ _) ?_
       exact (Sub.ren (ns:=[(48,48),(16,16)]) (kf:=[6,5,4,3,0]) (s':=([(6,qi (((8:Nat):Int) - 1 - ((k1 + 1:Nat):Int))),(5,qi ((p0.length:Int) - 1 - (k0:Int))),(4,.sc (.sl 48 0 32 1 none)),(3,.sc (.sl 16 0 z1.1 1 none)),(0,qr p0)],[(48,.ints .u8 32 [237,211,245,92,26,99,18,88,214,156,247,162,222,249,222,20,0,0,0,0,0,0,0,0,0,0,0,0,0,0,0,16]),(16,.ints .i64 z1.1 ((itr (FT32l2) 33 ((iRem (iShr .i64 (IntKind.wrap .i64 (p0.getD (p0.length - 1 - k0) 0)) (((8:Nat):Int) - 1 - (k1:Int))) 2),z1.2)).2))])) (by kernel_rfl) (by kernel_rfl)).trans (Sub.of_eq (by simp only [FT32l1,h1,h2,h7,sel_true,sel_false]))
   ·
    have h2':=of_decide_eq_false h2
    refine Tri.exit ?_
    have hend1:k1=8:=by (have:=of_decide_eq_false h2; omega)
    subst hend1; subst hz1
    change Tri _ _ _ _ _ _
    refine rr [(24,.i .i64 ((p0.length:Int) - 1 - ((k0 + 1:Nat):Int)))] none [5,4,3,0] [48,16] (TT∧((True∧((iSub .i64 ((p0.length:Int) - 1 - (k0:Int)) 1)=((p0.length:Int) - 1 - ((k0 + 1:Nat):Int))))∧(TT∧True)))
      ([(5,qi ((p0.length:Int) - 1 - ((k0 + 1:Nat):Int))),(4,.sc (.sl 48 0 32 1 none)),(3,.sc (.sl 16 0 ((itr (FT32l1 p0 k0) 8 (z0.1,z0.2)).1) 1 none)),(0,qr p0)],[(48,.ints .u8 32 [237,211,245,92,26,99,18,88,214,156,247,162,222,249,222,20,0,0,0,0,0,0,0,0,0,0,0,0,0,0,0,16]),(16,.ints .i64 ((itr (FT32l1 p0 k0) 8 (z0.1,z0.2)).1) ((itr (FT32l1 p0 k0) 8 (z0.1,z0.2)).2))])
      272 (⟨tt,⟨⟨trivial,(iSub_dn (by omega) (by omega))⟩,⟨tt,trivial⟩⟩⟩) ?_
    repeat (refine blkP_normal ?_)
    refine countP_normal (by omega) (show (itr (FT32l1 p0 k0) 8 (z0.1,z0.2)).1=33 from hJ1) ?_
    exact Sub.ren (ns:=[(48,48),(16,16)]) (kf:=[5,4,3,0]) (by kernel_rfl) (by kernel_rfl)
  ·
   have h1':=of_decide_eq_false h1
   refine Tri.exit ?_
   have hend0:k0=p0.length:=by (have:=of_decide_eq_false h1; omega)
   subst hend0; subst hz0
   change Tri _ _ _ _ _ _
   refine sr [] none [14,3] [176,16] (((((0:Int)≤32∧(32:Int)=32)∧((32≤(140737488355328:Int))∧(((1:Nat):Int) * 32≤281474976710656)))∧True)∧(TT∧True))
     ([(14,.sc (.sl 176 0 32 1 none)),(3,.sc (.sl 16 0 ((itr (FT32l0 p0) p0.length (33,List.replicate 33 0)).1) 1 none))],[(176,.ints .u8 32 (List.replicate 32 0)),(16,.ints .i64 ((itr (FT32l0 p0) p0.length (33,List.replicate 33 0)).1) ((itr (FT32l0 p0) p0.length (33,List.replicate 33 0)).2))])
     208 (⟨⟨⟨(by omega),⟨(by omega),(by omega)⟩⟩,trivial⟩,⟨tt,trivial⟩⟩) ?_
   refine Tri.seq ?_
   refine sr [] none [15,14,3] [176,16] (TT∧True)
     ([(15,qi 0),(14,.sc (.sl 176 0 32 1 none)),(3,.sc (.sl 16 0 ((itr (FT32l0 p0) p0.length (33,List.replicate 33 0)).1) 1 none))],[(176,.ints .u8 32 (List.replicate 32 0)),(16,.ints .i64 ((itr (FT32l0 p0) p0.length (33,List.replicate 33 0)).1) ((itr (FT32l0 p0) p0.length (33,List.replicate 33 0)).2))])
     224 (⟨tt,trivial⟩) ?_
   refine Tri.block ?_
   refine Tri.count 224 32 (FT32l4 p0) (List.replicate 32 0) (fun k4 z4 => True) (fun k4 z4 => ([(15,qi (k4:Int)),(14,.sc (.sl 176 0 32 1 none)),(3,.sc (.sl 16 0 ((itr (FT32l0 p0) p0.length (33,List.replicate 33 0)).1) 1 none))],[(176,.ints .u8 32 z4),(16,.ints .i64 ((itr (FT32l0 p0) p0.length (33,List.replicate 33 0)).1) ((itr (FT32l0 p0) p0.length (33,List.replicate 33 0)).2))])) trivial (Sub.of_eq (by kernel_rfl)) ?_
   intro k4 z4 hk4 hz4 hJ4
   refine Tri.seq ?_
   refine sr [] none [88,15,14,3] [176,16] (TT∧(TT∧True))
     ([(88,.sc (.b (decide (((k4:Int):Int) < 32)))),(15,qi (k4:Int)),(14,.sc (.sl 176 0 32 1 none)),(3,.sc (.sl 16 0 ((itr (FT32l0 p0) p0.length (33,List.replicate 33 0)).1) 1 none))],[(176,.ints .u8 32 z4),(16,.ints .i64 ((itr (FT32l0 p0) p0.length (33,List.replicate 33 0)).1) ((itr (FT32l0 p0) p0.length (33,List.replicate 33 0)).2))])
     256 (⟨tt,⟨tt,trivial⟩⟩) ?_
   refine Tri.cond (x:=(decide (((k4:Int):Int) < 32))) (by kernel_rfl) (fun h8 => ?_) (fun h8 => ?_)
   ·
    have h8':=of_decide_eq_true h8
    refine Tri.skip ?_
    change Tri _ _ _ _ _ _
    refine Tri.seq ?_
    refine Tri.block ?_
    refine rr [] none [15,14,3] [176,16] (TT∧(TT∧(TT∧(TT∧((((0:Int)≤(k4:Int)∧(k4:Int) < (((itr (FT32l0 p0) p0.length (33,List.replicate 33 0)).1:Nat):Int))∧True)∧(((k4 < (itr (FT32l0 p0) p0.length (33,List.replicate 33 0)).1)∧True)∧(TT∧((((0:Int)≤(k4:Int)∧(k4:Int) < ((32:Nat):Int))∧True)∧((((k4 < 32)∧(1=1))∧True)∧True)))))))))
      ([(15,qi (k4:Int)),(14,.sc (.sl 176 0 32 1 none)),(3,.sc (.sl 16 0 ((itr (FT32l0 p0) p0.length (33,List.replicate 33 0)).1) 1 none))],[(176,.ints .u8 32 (z4.set k4 (IntKind.wrap .u8 (((itr (FT32l0 p0) p0.length (33,List.replicate 33 0)).2).getD k4 0)))),(16,.ints .i64 ((itr (FT32l0 p0) p0.length (33,List.replicate 33 0)).1) ((itr (FT32l0 p0) p0.length (33,List.replicate 33 0)).2))])
      400 (⟨tt,⟨tt,⟨tt,⟨tt,⟨⟨(by omega),trivial⟩,⟨⟨(by omega),trivial⟩,⟨tt,⟨⟨(by omega),trivial⟩,⟨⟨⟨(by omega),(rfl)⟩,trivial⟩,trivial⟩⟩⟩⟩⟩⟩⟩⟩⟩) ?_
    change Tri _ _ _ _ _ _
    refine rr [(90,.i .i64 ((k4 + 1:Nat):Int))] none [15,14,3] [176,16] (TT∧((True∧((iAdd .i64 (k4:Int) 1)=((k4 + 1:Nat):Int)))∧(TT∧True)))
      ([(15,qi ((k4 + 1:Nat):Int)),(14,.sc (.sl 176 0 32 1 none)),(3,.sc (.sl 16 0 ((itr (FT32l0 p0) p0.length (33,List.replicate 33 0)).1) 1 none))],[(176,.ints .u8 32 (z4.set k4 (IntKind.wrap .u8 (((itr (FT32l0 p0) p0.length (33,List.replicate 33 0)).2).getD k4 0)))),(16,.ints .i64 ((itr (FT32l0 p0) p0.length (33,List.replicate 33 0)).1) ((itr (FT32l0 p0) p0.length (33,List.replicate 33 0)).2))])
      448 (⟨tt,⟨⟨trivial,(iAdd_nat (a:=k4) (b:=1) (by omega))⟩,⟨tt,trivial⟩⟩⟩) ?_
    repeat (refine blkP_normal ?_)
    refine countP_normal (by omega) trivial ?_
    exact Sub.ren (ns:=[(176,176),(16,16)]) (kf:=[15,14,3]) (by kernel_rfl) (by kernel_rfl)
   ·
    have h8':=of_decide_eq_false h8
    refine Tri.exit ?_
    have hend4:k4=32:=by (have:=of_decide_eq_false h8; omega)
    subst hend4; subst hz4
    change Tri _ _ _ _ _ _
    refine sr [] none [2] [176] (TT∧(TT∧True))
      ([(2,.sc (.sl 176 0 32 1 none))],[(176,.ints .u8 32 (itr (FT32l4 p0) 32 (List.replicate 32 0)))])
      288 (⟨tt,⟨tt,trivial⟩⟩) ?_
    refine Tri.ret ?_
    exact endP.ret [(176,0)] TT (by kernel_rfl) (by kernel_rfl) (by kernel_rfl) tt
theorem lenT32 (p0:List Int):(FT32 p0).length=32:=by
 have h:∀ n,(itr (FT32l4 p0) n (List.replicate 32 0)).length=32:=by
  intro n
  induction n with
  | zero => rw [itr_zero]; rfl
  | succ n ih => rw [itr_succ]; show (List.set _ _ _).length=32; rw [List.length_set]; exact ih
 exact h _
noncomputable def FT31 (p0:List Int) (p1:List Int) (p2:List Int):List Int :=
 (FT32 (part1 (FD36w64 (part1 ((p0 ++ p1) ++ p2) ((p0.length + p1.length) + p2.length) 0 ((p0.length + p1.length) + p2.length))) 64 0 64))
noncomputable def ST31:List AV→Option (Prop × Ret)
 | [.sc (.ro .u8 p0),.sc (.ro .u8 p1),.sc (.ro .u8 p2)] => some (p0.length + p1.length + p2.length≤1000000,⟨.sc (.sl 0 0 32 1 none),[.ints .u8 32 (FT31 p0 p1 p2)]⟩)
 | _ => none
noncomputable def BT31:Bs:={ P:=Go.Proofs.Tryd.prog,G:=gD,tab:=tabOf [(29,⟨[.ro .u8,.val],1,SD36w64⟩),(32,⟨[.ro .u8],1,ST32⟩)],n:=15 }
theorem BT31.ok:BT31.Ok:=⟨tabOk (P:=Go.Proofs.Tryd.prog) (G:=gD) (l:=[(29,⟨[.ro .u8,.val],1,SD36w64⟩),(32,⟨[.ro .u8],1,ST32⟩)]) (And.intro KD36w64 (And.intro KT32 True.intro)),mixed⟩
theorem KT31:Known Go.Proofs.Tryd.prog gD 31 ⟨[.ro .u8,.ro .u8,.ro .u8],1,ST31⟩:=by
 refine Known.walk (B:=BT31) (fn:=Go.Proofs.Tryd.f31) BT31.ok (by kernel_rfl) rfl (by kernel_rfl) (by kernel_rfl) (by decide) ?_ ?_
 ·intro vs C r h
  simp only at h
  unfold ST31 at h
  split at h
  ·cases h; rfl
  ·cases h
 ·intro E args C r h hC hlen
  simp only at h
  unfold ST31 at h
  split at h
  rotate_left
  ·cases h
  rename_i p0 p1 p2
  cases h
  simp only [lens] at hlen
  refine ⟨show 3≤15 from by decide,?_⟩
  refine Tri.sub (Sub.of_eq (show _=([(0,qr p0),(1,qr p1),(2,qr p2)],[]) from rfl)) ?_
  refine sr [] none [0,1,2] [] (TT∧True)
    ([(0,qr p0),(1,qr p1),(2,qr p2)],[])
    16 (⟨tt,trivial⟩) ?_
  refine sr [] none [6] [128] (TT∧(((((True∧(1=1))∧((0 < 1)∧((p0.length * 1≤140737488355328)∧(p0.length≤140737488355328))))∧(p0.length=p0.length * 1))∧True)∧(TT∧((((((True∧(1=1))∧((0 < 1)∧(((p0.length + p1.length) * 1≤140737488355328)∧(p0.length + p1.length≤140737488355328))))∧(p1.length=p1.length * 1))∧((1=1)∧(0 + p0.length * 1=p0.length)))∧True)∧(TT∧((((((True∧(1=1))∧((0 < 1)∧((((p0.length + p1.length) + p2.length) * 1≤140737488355328)∧((p0.length + p1.length) + p2.length≤140737488355328))))∧(p2.length=p2.length * 1))∧((1=1)∧(0 + (p0.length + p1.length) * 1=p0.length + p1.length)))∧True)∧(((((0 + ((p0.length + p1.length) + p2.length)≤(p0.length + p1.length) + p2.length)∧True)∧((part1 ((p0 ++ p1) ++ p2) ((p0.length + p1.length) + p2.length) 0 ((p0.length + p1.length) + p2.length)).length≤100000000))∧True)∧(((((0 + 64≤64)∧True)∧((part1 (FD36w64 (part1 ((p0 ++ p1) ++ p2) ((p0.length + p1.length) + p2.length) 0 ((p0.length + p1.length) + p2.length))) 64 0 64).length≤1000))∧True)∧(TT∧True)))))))))
    ([(6,.sc (.sl 128 0 32 1 none))],[(128,.ints .u8 32 (FT32 (part1 (FD36w64 (part1 ((p0 ++ p1) ++ p2) ((p0.length + p1.length) + p2.length) 0 ((p0.length + p1.length) + p2.length))) 64 0 64)))])
    160 (⟨tt,⟨⟨⟨⟨⟨trivial,(rfl)⟩,⟨(by omega),⟨(by omega),(by omega)⟩⟩⟩,(by omega)⟩,trivial⟩,⟨tt,⟨⟨⟨⟨⟨⟨trivial,(rfl)⟩,⟨(by omega),⟨(by omega),(by omega)⟩⟩⟩,(by omega)⟩,⟨(rfl),(by omega)⟩⟩,trivial⟩,⟨tt,⟨⟨⟨⟨⟨⟨trivial,(rfl)⟩,⟨(by omega),⟨(by omega),(by omega)⟩⟩⟩,(by omega)⟩,⟨(rfl),(by omega)⟩⟩,trivial⟩,⟨⟨⟨⟨(by omega),trivial⟩,(by first | omega | (rw [adr_eq]; omega) | exact iAnd_nn _ _ | exact iSub_nn _ _ | exact part1_le (by omega) (by first | omega | (simp only [List.length_append]; omega)) | decide)⟩,trivial⟩,⟨⟨⟨⟨(by omega),trivial⟩,(by exact part1_le (by decide) (by rw [lenD36w64]; decide))⟩,trivial⟩,⟨tt,trivial⟩⟩⟩⟩⟩⟩⟩⟩⟩) ?_
  refine Tri.ret ?_
  exact endP.ret [(128,0)] TT (by kernel_rfl) (by kernel_rfl) (by kernel_rfl) tt
theorem lenT31 (p0 p1 p2:List Int):(FT31 p0 p1 p2).length=32:=lenT32 _
noncomputable def FT11 (p0:List Int):List Int :=
 (FT26 (FT27 (part1 (F44 (part1 (FD36w64 p0) 64 0 32)) ((part1 (FD36w64 p0) 64 0 32).length) 0 ((part1 (FD36w64 p0) 64 0 32).length)) (FT30)))
noncomputable def ST11:List AV→Option (Prop × Ret)
 | [.sc (.ro .u8 p0)] => some (p0.length=32,⟨.sc (.sl 0 0 32 1 none),[.ints .u8 32 (FT11 p0)]⟩)
 | _ => none
noncomputable def BT11:Bs:={ P:=Go.Proofs.Tryd.prog,G:=gD,tab:=tabOf [(26,⟨[.val],1,ST26⟩),(27,⟨[.ro .u8,.val],0,ST27⟩),(28,⟨[.ro .u8],1,S44⟩),(29,⟨[.ro .u8,.val],1,SD36w64⟩),(30,⟨[],0,ST30⟩)],n:=10 }
theorem BT11.ok:BT11.Ok:=⟨tabOk (P:=Go.Proofs.Tryd.prog) (G:=gD) (l:=[(26,⟨[.val],1,ST26⟩),(27,⟨[.ro .u8,.val],0,ST27⟩),(28,⟨[.ro .u8],1,S44⟩),(29,⟨[.ro .u8,.val],1,SD36w64⟩),(30,⟨[],0,ST30⟩)]) (And.intro KT26 (And.intro KT27 (And.intro K44 (And.intro KD36w64 (And.intro KT30 True.intro))))),mixed⟩
theorem KT11:Known Go.Proofs.Tryd.prog gD 11 ⟨[.ro .u8],1,ST11⟩:=by
 refine Known.walk (B:=BT11) (fn:=Go.Proofs.Tryd.f11) BT11.ok (by kernel_rfl) rfl (by kernel_rfl) (by kernel_rfl) (by decide) ?_ ?_
 ·intro vs C r h
  simp only at h
  unfold ST11 at h
  split at h
  ·cases h; rfl
  ·cases h
 ·intro E args C r h hC hlen
  simp only at h
  unfold ST11 at h
  split at h
  rotate_left
  ·cases h
  rename_i p0
  cases h
  simp only [lens] at hlen
  have hh:=len_half p0 0 (by decide)
  have hh2:=len_half p0 32 (by decide)
  refine ⟨show 1≤10 from by decide,?_⟩
  refine Tri.sub (Sub.of_eq (show _=([(0,qr p0)],[]) from rfl)) ?_
  refine sr [] none [0] [] (TT∧True)
    ([(0,qr p0)],[])
    16 (⟨tt,trivial⟩) ?_
  refine sr [] none [2] [112] (TT∧(((True∧(p0.length≤100000000))∧True)∧((((0:Int)≤0∧(0:Int)≤32∧32≤((64:Nat):Int))∧True)∧(((((0 + 32≤64)∧True)∧((part1 (FD36w64 p0) 64 0 32).length=32))∧True)∧((TT∧True)∧(((((0 + ((part1 (FD36w64 p0) 64 0 32).length)≤(part1 (FD36w64 p0) 64 0 32).length)∧True)∧((part1 (F44 (part1 (FD36w64 p0) 64 0 32)) ((part1 (FD36w64 p0) 64 0 32).length) 0 ((part1 (FD36w64 p0) 64 0 32).length)).length≤1000000))∧True)∧((TT∧True)∧(TT∧True))))))))
    ([(2,.sc (.sl 112 0 32 1 none))],[(112,.ints .u8 32 (FT26 (FT27 (part1 (F44 (part1 (FD36w64 p0) 64 0 32)) ((part1 (FD36w64 p0) 64 0 32).length) 0 ((part1 (FD36w64 p0) 64 0 32).length)) (FT30))))])
    144 (⟨tt,⟨⟨⟨trivial,(by omega)⟩,trivial⟩,⟨⟨(by omega),trivial⟩,⟨⟨⟨⟨(by omega),trivial⟩,(hh)⟩,trivial⟩,⟨⟨tt,trivial⟩,⟨⟨⟨⟨(by omega),trivial⟩,(by exact part1_le (by omega) (by rw [len44]; omega))⟩,trivial⟩,⟨⟨tt,trivial⟩,⟨tt,trivial⟩⟩⟩⟩⟩⟩⟩⟩) ?_
  refine Tri.ret ?_
  exact endP.ret [(112,0)] TT (by kernel_rfl) (by kernel_rfl) (by kernel_rfl) tt
theorem lenT11 (p0:List Int):(FT11 p0).length=32:=lenT26 _
noncomputable def FT12l1 (p0:List Int) (p1:List Int) (k0:Nat) (k1:Nat) (z1:List Int):List Int :=
 z1.set (k0 + k1) (iAdd .i64 (z1.getD (k0 + k1) 0) (iMul .i64 (IntKind.wrap .i64 ((FT31 (part1 (FT26 (FT27 (part1 (FT31 (part1 (FD36w64 p0) 64 32 32) p1 ([]:List Int)) 32 0 32) (FT30))) 32 0 32) (part1 (FT11 p0) 32 0 32) p1).getD k0 0)) (IntKind.wrap .i64 ((F44 (part1 (FD36w64 p0) 64 0 32)).getD k1 0))))
noncomputable def FT12l0 (p0:List Int) (p1:List Int) (k0:Nat) (z0:List Int):List Int :=
 (itr (FT12l1 p0 p1 k0) 32 (z0.set k0 (iAdd .i64 (z0.getD k0 0) (IntKind.wrap .i64 ((FT31 (part1 (FD36w64 p0) 64 32 32) p1 ([]:List Int)).getD k0 0)))))
noncomputable def FT12l2 (p0:List Int) (p1:List Int) (k2:Nat) (z2:Int × List Int):Int × List Int :=
 ((iQuo .i64 (iAdd .i64 z2.1 ((itr (FT12l0 p0 p1) 32 (List.replicate 66 0)).getD k2 0)) 256),z2.2.set k2 (IntKind.wrap .u8 (iRem (iAdd .i64 z2.1 ((itr (FT12l0 p0 p1) 32 (List.replicate 66 0)).getD k2 0)) 256)))
noncomputable def FT12 (p0:List Int) (p1:List Int):List Int :=
 (FT26 (FT27 (part1 (FT31 (part1 (FD36w64 p0) 64 32 32) p1 ([]:List Int)) 32 0 32) (FT30))) ++ (FT32 (part1 ((itr (FT12l2 p0 p1) 66 (0,List.replicate 66 0)).2) 66 0 66))
noncomputable def ST12:List AV→Option (Prop × Ret)
 | [.sc (.ro .u8 p0),.sc (.ro .u8 p1)] => some (p0.length=32∧p1.length≤10000,⟨.sc (.sl 0 0 64 1 none),[.ints .u8 64 (FT12 p0 p1)]⟩)
 | _ => none
noncomputable def BT12:Bs:={ P:=Go.Proofs.Tryd.prog,G:=gD,tab:=tabOf [(11,⟨[.ro .u8],1,ST11⟩),(26,⟨[.val],1,ST26⟩),(27,⟨[.ro .u8,.val],0,ST27⟩),(28,⟨[.ro .u8],1,S44⟩),(29,⟨[.ro .u8,.val],1,SD36w64⟩),(30,⟨[],0,ST30⟩),(31,⟨[.ro .u8,.ro .u8,.ro .u8],1,ST31⟩),(32,⟨[.ro .u8],1,ST32⟩)],n:=96 }
theorem BT12.ok:BT12.Ok:=⟨tabOk (P:=Go.Proofs.Tryd.prog) (G:=gD) (l:=[(11,⟨[.ro .u8],1,ST11⟩),(26,⟨[.val],1,ST26⟩),(27,⟨[.ro .u8,.val],0,ST27⟩),(28,⟨[.ro .u8],1,S44⟩),(29,⟨[.ro .u8,.val],1,SD36w64⟩),(30,⟨[],0,ST30⟩),(31,⟨[.ro .u8,.ro .u8,.ro .u8],1,ST31⟩),(32,⟨[.ro .u8],1,ST32⟩)]) (And.intro KT11 (And.intro KT26 (And.intro KT27 (And.intro K44 (And.intro KD36w64 (And.intro KT30 (And.intro KT31 (And.intro KT32 True.intro)))))))),mixed⟩
theorem KT12:Known Go.Proofs.Tryd.prog gD 12 ⟨[.ro .u8,.ro .u8],1,ST12⟩:=by
 refine Known.walk (B:=BT12) (fn:=Go.Proofs.Tryd.f12) BT12.ok (by kernel_rfl) rfl (by kernel_rfl) (by kernel_rfl) (by decide) ?_ ?_
 ·intro vs C r h
  simp only at h
  unfold ST12 at h
  split at h
  ·cases h; rfl
  ·cases h
 ·intro E args C r h hC hlen
  simp only at h
  unfold ST12 at h
  split at h
  rotate_left
  ·cases h
  rename_i p0 p1
  cases h
  simp only [lens] at hlen
  have hh:=len_half p0 0 (by decide)
  have hh2:=len_half p0 32 (by decide)
  refine ⟨show 2≤96 from by decide,?_⟩
  refine Tri.sub (Sub.of_eq (show _=([(0,qr p0),(1,qr p1)],[]) from rfl)) ?_
  refine sr [] none [0,1] [] (TT∧True)
    ([(0,qr p0),(1,qr p1)],[])
    16 (⟨tt,trivial⟩) ?_
  refine sr [] none [5,0,1] [32] (TT∧(((True∧(p0.length≤100000000))∧True)∧(TT∧True)))
    ([(5,.sc (.sl 32 0 64 1 none)),(0,qr p0),(1,qr p1)],[(32,.ints .u8 64 (FD36w64 p0))])
    64 (⟨tt,⟨⟨⟨trivial,(by omega)⟩,trivial⟩,⟨tt,trivial⟩⟩⟩) ?_
  refine Tri.len 32 rfl (fun hl1 => ?_)
  refine sr [] none [6,5,0,1] [112,32] (TT∧((((0:Int)≤32∧(32:Int)≤64∧64≤((64:Nat):Int))∧True)∧(TT∧(((((32 + 32≤64)∧True)∧((part1 (FD36w64 p0) 64 32 32).length + p1.length + ([]:List Int).length≤1000000))∧True)∧(TT∧True)))))
    ([(6,.sc (.sl 112 0 32 1 none)),(5,.sc (.sl 32 0 64 1 none)),(0,qr p0),(1,qr p1)],[(112,.ints .u8 32 (FT31 (part1 (FD36w64 p0) 64 32 32) p1 ([]:List Int))),(32,.ints .u8 64 (FD36w64 p0))])
    144 (⟨tt,⟨⟨(by omega),trivial⟩,⟨tt,⟨⟨⟨⟨(by omega),trivial⟩,(by first | exact (show _ + _ + 0≤1000000 by omega) | exact three_le (by first | omega | (rw [List.length_take]; omega) | (have hl:=lenT40 (p0:=p0) (by assumption); omega) | exact part1_le (by decide) (by rw [lenT26]; decide) | exact part1_le (by decide) (by rw [lenT11]; decide)) (by first | omega | (rw [List.length_take]; omega) | (have hl:=lenT40 (p0:=p0) (by assumption); omega) | exact part1_le (by decide) (by rw [lenT26]; decide) | exact part1_le (by decide) (by rw [lenT11]; decide)) (by first | omega | (rw [List.length_take]; omega) | (have hl:=lenT40 (p0:=p0) (by assumption); omega) | exact part1_le (by decide) (by rw [lenT26]; decide) | exact part1_le (by decide) (by rw [lenT11]; decide)))⟩,trivial⟩,⟨tt,trivial⟩⟩⟩⟩⟩) ?_
  refine Tri.len 112 rfl (fun hl2 => ?_)
  refine Tri.len 32 rfl (fun hl3 => ?_)
  refine sr [] none [7,6,5,0,1] [192,112,32] (TT∧((TT∧True)∧(((((0 + 32≤32)∧True)∧((part1 (FT31 (part1 (FD36w64 p0) 64 32 32) p1 ([]:List Int)) 32 0 32).length≤1000000))∧True)∧((TT∧True)∧(TT∧True)))))
    ([(7,.sc (.sl 192 0 32 1 none)),(6,.sc (.sl 112 0 32 1 none)),(5,.sc (.sl 32 0 64 1 none)),(0,qr p0),(1,qr p1)],[(192,.ints .u8 32 (FT26 (FT27 (part1 (FT31 (part1 (FD36w64 p0) 64 32 32) p1 ([]:List Int)) 32 0 32) (FT30)))),(112,.ints .u8 32 (FT31 (part1 (FD36w64 p0) 64 32 32) p1 ([]:List Int))),(32,.ints .u8 64 (FD36w64 p0))])
    224 (⟨tt,⟨⟨tt,trivial⟩,⟨⟨⟨⟨(by omega),trivial⟩,(by exact part1_le (by decide) (by rw [lenT31]; decide))⟩,trivial⟩,⟨⟨tt,trivial⟩,⟨tt,trivial⟩⟩⟩⟩⟩) ?_
  refine Tri.len 192 rfl (fun hl4 => ?_)
  refine Tri.len 112 rfl (fun hl5 => ?_)
  refine Tri.len 32 rfl (fun hl6 => ?_)
  refine sr [] none [8,7,6,5] [288,192,112,32] (TT∧(TT∧(((True∧(p0.length=32))∧True)∧(TT∧(((((0 + 32≤32)∧((0 + 32≤32)∧True))∧((part1 (FT26 (FT27 (part1 (FT31 (part1 (FD36w64 p0) 64 32 32) p1 ([]:List Int)) 32 0 32) (FT30))) 32 0 32).length + (part1 (FT11 p0) 32 0 32).length + p1.length≤1000000))∧True)∧(TT∧True))))))
    ([(8,.sc (.sl 288 0 32 1 none)),(7,.sc (.sl 192 0 32 1 none)),(6,.sc (.sl 112 0 32 1 none)),(5,.sc (.sl 32 0 64 1 none))],[(288,.ints .u8 32 (FT31 (part1 (FT26 (FT27 (part1 (FT31 (part1 (FD36w64 p0) 64 32 32) p1 ([]:List Int)) 32 0 32) (FT30))) 32 0 32) (part1 (FT11 p0) 32 0 32) p1)),(192,.ints .u8 32 (FT26 (FT27 (part1 (FT31 (part1 (FD36w64 p0) 64 32 32) p1 ([]:List Int)) 32 0 32) (FT30)))),(112,.ints .u8 32 (FT31 (part1 (FD36w64 p0) 64 32 32) p1 ([]:List Int))),(32,.ints .u8 64 (FD36w64 p0))])
    320 (⟨tt,⟨tt,⟨⟨⟨trivial,(by omega)⟩,trivial⟩,⟨tt,⟨⟨⟨⟨(by omega),⟨(by omega),trivial⟩⟩,(by first | exact (show _ + _ + 0≤1000000 by omega) | exact three_le (by first | omega | (rw [List.length_take]; omega) | (have hl:=lenT40 (p0:=p0) (by assumption); omega) | exact part1_le (by decide) (by rw [lenT26]; decide) | exact part1_le (by decide) (by rw [lenT11]; decide)) (by first | omega | (rw [List.length_take]; omega) | (have hl:=lenT40 (p0:=p0) (by assumption); omega) | exact part1_le (by decide) (by rw [lenT26]; decide) | exact part1_le (by decide) (by rw [lenT11]; decide)) (by first | omega | (rw [List.length_take]; omega) | (have hl:=lenT40 (p0:=p0) (by assumption); omega) | exact part1_le (by decide) (by rw [lenT26]; decide) | exact part1_le (by decide) (by rw [lenT11]; decide)))⟩,trivial⟩,⟨tt,trivial⟩⟩⟩⟩⟩⟩) ?_
  refine Tri.len 288 rfl (fun hl7 => ?_)
  refine Tri.len 192 rfl (fun hl8 => ?_)
  refine Tri.len 112 rfl (fun hl9 => ?_)
  refine Tri.len 32 rfl (fun hl10 => ?_)
  refine sr [] none [9,8,7,6] [352,288,192,112] (TT∧((((0:Int)≤0∧(0:Int)≤32∧32≤((64:Nat):Int))∧True)∧(((((0 + 32≤64)∧True)∧((part1 (FD36w64 p0) 64 0 32).length=32))∧True)∧(TT∧True))))
    ([(9,.sc (.sl 352 0 ((part1 (FD36w64 p0) 64 0 32).length) 1 none)),(8,.sc (.sl 288 0 32 1 none)),(7,.sc (.sl 192 0 32 1 none)),(6,.sc (.sl 112 0 32 1 none))],[(352,.ints .u8 ((part1 (FD36w64 p0) 64 0 32).length) (F44 (part1 (FD36w64 p0) 64 0 32))),(288,.ints .u8 32 (FT31 (part1 (FT26 (FT27 (part1 (FT31 (part1 (FD36w64 p0) 64 32 32) p1 ([]:List Int)) 32 0 32) (FT30))) 32 0 32) (part1 (FT11 p0) 32 0 32) p1)),(192,.ints .u8 32 (FT26 (FT27 (part1 (FT31 (part1 (FD36w64 p0) 64 32 32) p1 ([]:List Int)) 32 0 32) (FT30)))),(112,.ints .u8 32 (FT31 (part1 (FD36w64 p0) 64 32 32) p1 ([]:List Int)))])
    384 (⟨tt,⟨⟨(by omega),trivial⟩,⟨⟨⟨⟨(by omega),trivial⟩,(hh)⟩,trivial⟩,⟨tt,trivial⟩⟩⟩⟩) ?_
  refine Tri.len 352 rfl (fun hl11 => ?_)
  refine Tri.len 288 rfl (fun hl12 => ?_)
  refine Tri.len 192 rfl (fun hl13 => ?_)
  refine Tri.len 112 rfl (fun hl14 => ?_)
  refine sr [] none [10,9,8,7,6] [384,352,288,192,112] (((((0:Int)≤66∧(66:Int)=66)∧((66≤(140737488355328:Int))∧(((8:Nat):Int) * 66≤281474976710656)))∧True)∧(TT∧True))
    ([(10,.sc (.sl 384 0 66 1 none)),(9,.sc (.sl 352 0 ((part1 (FD36w64 p0) 64 0 32).length) 1 none)),(8,.sc (.sl 288 0 32 1 none)),(7,.sc (.sl 192 0 32 1 none)),(6,.sc (.sl 112 0 32 1 none))],[(384,.ints .i64 66 (List.replicate 66 0)),(352,.ints .u8 ((part1 (FD36w64 p0) 64 0 32).length) (F44 (part1 (FD36w64 p0) 64 0 32))),(288,.ints .u8 32 (FT31 (part1 (FT26 (FT27 (part1 (FT31 (part1 (FD36w64 p0) 64 32 32) p1 ([]:List Int)) 32 0 32) (FT30))) 32 0 32) (part1 (FT11 p0) 32 0 32) p1)),(192,.ints .u8 32 (FT26 (FT27 (part1 (FT31 (part1 (FD36w64 p0) 64 32 32) p1 ([]:List Int)) 32 0 32) (FT30)))),(112,.ints .u8 32 (FT31 (part1 (FD36w64 p0) 64 32 32) p1 ([]:List Int)))])
    416 (⟨⟨⟨(by omega),⟨(by omega),(by omega)⟩⟩,trivial⟩,⟨tt,trivial⟩⟩) ?_
  refine Tri.seq ?_
  refine Tri.len 384 rfl (fun hl15 => ?_)
  refine Tri.len 352 rfl (fun hl16 => ?_)
  refine Tri.len 288 rfl (fun hl17 => ?_)
  refine Tri.len 192 rfl (fun hl18 => ?_)
  refine Tri.len 112 rfl (fun hl19 => ?_)
  refine sr [] none [11,10,9,8,7,6] [384,352,288,192,112] (TT∧True)
    ([(11,qi 0),(10,.sc (.sl 384 0 66 1 none)),(9,.sc (.sl 352 0 ((part1 (FD36w64 p0) 64 0 32).length) 1 none)),(8,.sc (.sl 288 0 32 1 none)),(7,.sc (.sl 192 0 32 1 none)),(6,.sc (.sl 112 0 32 1 none))],[(384,.ints .i64 66 (List.replicate 66 0)),(352,.ints .u8 ((part1 (FD36w64 p0) 64 0 32).length) (F44 (part1 (FD36w64 p0) 64 0 32))),(288,.ints .u8 32 (FT31 (part1 (FT26 (FT27 (part1 (FT31 (part1 (FD36w64 p0) 64 32 32) p1 ([]:List Int)) 32 0 32) (FT30))) 32 0 32) (part1 (FT11 p0) 32 0 32) p1)),(192,.ints .u8 32 (FT26 (FT27 (part1 (FT31 (part1 (FD36w64 p0) 64 32 32) p1 ([]:List Int)) 32 0 32) (FT30)))),(112,.ints .u8 32 (FT31 (part1 (FD36w64 p0) 64 32 32) p1 ([]:List Int)))])
    432 (⟨tt,trivial⟩) ?_
  refine Tri.block ?_
  refine Tri.count 432 32 (FT12l0 p0 p1) (List.replicate 66 0) (fun k0 z0 => True) (fun k0 z0 => ([(11,qi (k0:Int)),(10,.sc (.sl 384 0 66 1 none)),(9,.sc (.sl 352 0 ((part1 (FD36w64 p0) 64 0 32).length) 1 none)),(8,.sc (.sl 288 0 32 1 none)),(7,.sc (.sl 192 0 32 1 none)),(6,.sc (.sl 112 0 32 1 none))],[(384,.ints .i64 66 z0),(352,.ints .u8 ((part1 (FD36w64 p0) 64 0 32).length) (F44 (part1 (FD36w64 p0) 64 0 32))),(288,.ints .u8 32 (FT31 (part1 (FT26 (FT27 (part1 (FT31 (part1 (FD36w64 p0) 64 32 32) p1 ([]:List Int)) 32 0 32) (FT30))) 32 0 32) (part1 (FT11 p0) 32 0 32) p1)),(192,.ints .u8 32 (FT26 (FT27 (part1 (FT31 (part1 (FD36w64 p0) 64 32 32) p1 ([]:List Int)) 32 0 32) (FT30)))),(112,.ints .u8 32 (FT31 (part1 (FD36w64 p0) 64 32 32) p1 ([]:List Int)))])) trivial (Sub.of_eq (by kernel_rfl)) ?_
  intro k0 z0 hk0 hz0 hJ0
  refine Tri.seq ?_
  refine Tri.len 384 rfl (fun hl20 => ?_)
  refine Tri.len 352 rfl (fun hl21 => ?_)
  refine Tri.len 288 rfl (fun hl22 => ?_)
  refine Tri.len 192 rfl (fun hl23 => ?_)
  refine Tri.len 112 rfl (fun hl24 => ?_)
  refine sr [] none [36,11,10,9,8,7,6] [384,352,288,192,112] (TT∧(TT∧True))
    ([(36,.sc (.b (decide (((k0:Int):Int) < 32)))),(11,qi (k0:Int)),(10,.sc (.sl 384 0 66 1 none)),(9,.sc (.sl 352 0 ((part1 (FD36w64 p0) 64 0 32).length) 1 none)),(8,.sc (.sl 288 0 32 1 none)),(7,.sc (.sl 192 0 32 1 none)),(6,.sc (.sl 112 0 32 1 none))],[(384,.ints .i64 66 z0),(352,.ints .u8 ((part1 (FD36w64 p0) 64 0 32).length) (F44 (part1 (FD36w64 p0) 64 0 32))),(288,.ints .u8 32 (FT31 (part1 (FT26 (FT27 (part1 (FT31 (part1 (FD36w64 p0) 64 32 32) p1 ([]:List Int)) 32 0 32) (FT30))) 32 0 32) (part1 (FT11 p0) 32 0 32) p1)),(192,.ints .u8 32 (FT26 (FT27 (part1 (FT31 (part1 (FD36w64 p0) 64 32 32) p1 ([]:List Int)) 32 0 32) (FT30)))),(112,.ints .u8 32 (FT31 (part1 (FD36w64 p0) 64 32 32) p1 ([]:List Int)))])
    464 (⟨tt,⟨tt,trivial⟩⟩) ?_
  refine Tri.cond (x:=(decide (((k0:Int):Int) < 32))) (by kernel_rfl) (fun h25 => ?_) (fun h25 => ?_)
  ·
   have h25':=of_decide_eq_true h25
   refine Tri.skip ?_
   change Tri _ _ _ _ _ _
   refine Tri.seq ?_
   refine Tri.block ?_
   refine Tri.len 384 rfl (fun hl26 => ?_)
   refine Tri.len 352 rfl (fun hl27 => ?_)
   refine Tri.len 288 rfl (fun hl28 => ?_)
   refine Tri.len 192 rfl (fun hl29 => ?_)
   refine Tri.len 112 rfl (fun hl30 => ?_)
   refine sr [] (some [0,0,3,7,0,0,48,112,240,511,1023,2047]) [11,10,9,8,7,6] [384,352,288,192,112] (TT∧(TT∧((((0:Int)≤(k0:Int)∧(k0:Int) < ((66:Nat):Int))∧True)∧(((k0 < 66)∧True)∧(TT∧(TT∧((((0:Int)≤(k0:Int)∧(k0:Int) < ((32:Nat):Int))∧True)∧(((k0 < 32)∧True)∧(TT∧(TT∧((((0:Int)≤(k0:Int)∧(k0:Int) < ((66:Nat):Int))∧True)∧((((k0 < 66)∧(1=1))∧True)∧True))))))))))))
     ([(11,qi (k0:Int)),(10,.sc (.sl 384 0 66 1 none)),(9,.sc (.sl 352 0 ((part1 (FD36w64 p0) 64 0 32).length) 1 none)),(8,.sc (.sl 288 0 32 1 none)),(7,.sc (.sl 192 0 32 1 none)),(6,.sc (.sl 112 0 32 1 none))],[(384,.ints .i64 66 (z0.set k0 (iAdd .i64 (z0.getD k0 0) (IntKind.wrap .i64 ((FT31 (part1 (FD36w64 p0) 64 32 32) p1 ([]:List Int)).getD k0 0))))),(352,.ints .u8 ((part1 (FD36w64 p0) 64 0 32).length) (F44 (part1 (FD36w64 p0) 64 0 32))),(288,.ints .u8 32 (FT31 (part1 (FT26 (FT27 (part1 (FT31 (part1 (FD36w64 p0) 64 32 32) p1 ([]:List Int)) 32 0 32) (FT30))) 32 0 32) (part1 (FT11 p0) 32 0 32) p1)),(192,.ints .u8 32 (FT26 (FT27 (part1 (FT31 (part1 (FD36w64 p0) 64 32 32) p1 ([]:List Int)) 32 0 32) (FT30)))),(112,.ints .u8 32 (FT31 (part1 (FD36w64 p0) 64 32 32) p1 ([]:List Int)))])
     656 (⟨tt,⟨tt,⟨⟨(by omega),trivial⟩,⟨⟨(by omega),trivial⟩,⟨tt,⟨tt,⟨⟨(by omega),trivial⟩,⟨⟨(by omega),trivial⟩,⟨tt,⟨tt,⟨⟨(by omega),trivial⟩,⟨⟨⟨(by omega),(rfl)⟩,trivial⟩,trivial⟩⟩⟩⟩⟩⟩⟩⟩⟩⟩⟩⟩) ?_
   refine Tri.len 384 rfl (fun hl31 => ?_)
   refine Tri.len 352 rfl (fun hl32 => ?_)
   refine Tri.len 288 rfl (fun hl33 => ?_)
   refine Tri.len 192 rfl (fun hl34 => ?_)
   refine Tri.len 112 rfl (fun hl35 => ?_)
   refine sr [] none [12,11,10,9,8,7,6] [384,352,288,192,112] (TT∧True)
     ([(12,qi 0),(11,qi (k0:Int)),(10,.sc (.sl 384 0 66 1 none)),(9,.sc (.sl 352 0 ((part1 (FD36w64 p0) 64 0 32).length) 1 none)),(8,.sc (.sl 288 0 32 1 none)),(7,.sc (.sl 192 0 32 1 none)),(6,.sc (.sl 112 0 32 1 none))],[(384,.ints .i64 66 (z0.set k0 (iAdd .i64 (z0.getD k0 0) (IntKind.wrap .i64 ((FT31 (part1 (FD36w64 p0) 64 32 32) p1 ([]:List Int)).getD k0 0))))),(352,.ints .u8 ((part1 (FD36w64 p0) 64 0 32).length) (F44 (part1 (FD36w64 p0) 64 0 32))),(288,.ints .u8 32 (FT31 (part1 (FT26 (FT27 (part1 (FT31 (part1 (FD36w64 p0) 64 32 32) p1 ([]:List Int)) 32 0 32) (FT30))) 32 0 32) (part1 (FT11 p0) 32 0 32) p1)),(192,.ints .u8 32 (FT26 (FT27 (part1 (FT31 (part1 (FD36w64 p0) 64 32 32) p1 ([]:List Int)) 32 0 32) (FT30)))),(112,.ints .u8 32 (FT31 (part1 (FD36w64 p0) 64 32 32) p1 ([]:List Int)))])
     672 (⟨tt,trivial⟩) ?_
   refine Tri.block ?_
   refine Tri.count 672 32 (FT12l1 p0 p1 k0) (z0.set k0 (iAdd .i64 (z0.getD k0 0) (IntKind.wrap .i64 ((FT31 (part1 (FD36w64 p0) 64 32 32) p1 ([]:List Int)).getD k0 0)))) (fun k1 z1 => True) (fun k1 z1 => ([(12,qi (k1:Int)),(11,qi (k0:Int)),(10,.sc (.sl 384 0 66 1 none)),(9,.sc (.sl 352 0 ((part1 (FD36w64 p0) 64 0 32).length) 1 none)),(8,.sc (.sl 288 0 32 1 none)),(7,.sc (.sl 192 0 32 1 none)),(6,.sc (.sl 112 0 32 1 none))],[(384,.ints .i64 66 z1),(352,.ints .u8 ((part1 (FD36w64 p0) 64 0 32).length) (F44 (part1 (FD36w64 p0) 64 0 32))),(288,.ints .u8 32 (FT31 (part1 (FT26 (FT27 (part1 (FT31 (part1 (FD36w64 p0) 64 32 32) p1 ([]:List Int)) 32 0 32) (FT30))) 32 0 32) (part1 (FT11 p0) 32 0 32) p1)),(192,.ints .u8 32 (FT26 (FT27 (part1 (FT31 (part1 (FD36w64 p0) 64 32 32) p1 ([]:List Int)) 32 0 32) (FT30)))),(112,.ints .u8 32 (FT31 (part1 (FD36w64 p0) 64 32 32) p1 ([]:List Int)))])) trivial (Sub.of_eq (by kernel_rfl)) ?_
   intro k1 z1 hk1 hz1 hJ1
   refine Tri.seq ?_
   refine Tri.len 384 rfl (fun hl36 => ?_)
   refine Tri.len 352 rfl (fun hl37 => ?_)
   refine Tri.len 288 rfl (fun hl38 => ?_)
   refine Tri.len 192 rfl (fun hl39 => ?_)
   refine Tri.len 112 rfl (fun hl40 => ?_)
   refine sr [] none [51,12,11,10,9,8,7,6] [384,352,288,192,112] (TT∧(TT∧True))
     ([(51,.sc (.b (decide (((k1:Int):Int) < 32)))),(12,qi (k1:Int)),(11,qi (k0:Int)),(10,.sc (.sl 384 0 66 1 none)),(9,.sc (.sl 352 0 ((part1 (FD36w64 p0) 64 0 32).length) 1 none)),(8,.sc (.sl 288 0 32 1 none)),(7,.sc (.sl 192 0 32 1 none)),(6,.sc (.sl 112 0 32 1 none))],[(384,.ints .i64 66 z1),(352,.ints .u8 ((part1 (FD36w64 p0) 64 0 32).length) (F44 (part1 (FD36w64 p0) 64 0 32))),(288,.ints .u8 32 (FT31 (part1 (FT26 (FT27 (part1 (FT31 (part1 (FD36w64 p0) 64 32 32) p1 ([]:List Int)) 32 0 32) (FT30))) 32 0 32) (part1 (FT11 p0) 32 0 32) p1)),(192,.ints .u8 32 (FT26 (FT27 (part1 (FT31 (part1 (FD36w64 p0) 64 32 32) p1 ([]:List Int)) 32 0 32) (FT30)))),(112,.ints .u8 32 (FT31 (part1 (FD36w64 p0) 64 32 32) p1 ([]:List Int)))])
     704 (⟨tt,⟨tt,trivial⟩⟩) ?_
   refine Tri.cond (x:=(decide (((k1:Int):Int) < 32))) (by kernel_rfl) (fun h41 => ?_) (fun h41 => ?_)
   ·
    have h41':=of_decide_eq_true h41
    refine Tri.skip ?_
    change Tri _ _ _ _ _ _
    refine Tri.seq ?_
    refine Tri.block ?_
    refine Tri.len 384 rfl (fun hl42 => ?_)
    refine Tri.len 352 rfl (fun hl43 => ?_)
    refine Tri.len 288 rfl (fun hl44 => ?_)
    refine Tri.len 192 rfl (fun hl45 => ?_)
    refine Tri.len 112 rfl (fun hl46 => ?_)
    refine rr [(57,.i .i64 ((k0 + k1:Nat):Int))] (some [0,0,0,6,15,31,0,0,192,448,960,0,0,6144,14336,30720,65472,131071,262143,524287]) [12,11,10,9,8,7,6] [384,352,288,192,112] (TT∧(TT∧(TT∧((True∧((iAdd .i64 (k0:Int) (k1:Int))=((k0 + k1:Nat):Int)))∧((((0:Int)≤((k0 + k1:Nat):Int)∧((k0 + k1:Nat):Int) < ((66:Nat):Int))∧True)∧(((k0 + k1 < 66)∧True)∧(TT∧(TT∧((((0:Int)≤(k0:Int)∧(k0:Int) < ((32:Nat):Int))∧True)∧(((k0 < 32)∧True)∧(TT∧(TT∧(TT∧((((0:Int)≤(k1:Int)∧(k1:Int) < (((part1 (FD36w64 p0) 64 0 32).length:Nat):Int))∧True)∧(((k1 < (part1 (FD36w64 p0) 64 0 32).length)∧True)∧(TT∧(TT∧(TT∧((((0:Int)≤((k0 + k1:Nat):Int)∧((k0 + k1:Nat):Int) < ((66:Nat):Int))∧True)∧((((k0 + k1 < 66)∧(1=1))∧True)∧True))))))))))))))))))))
      ([(12,qi (k1:Int)),(11,qi (k0:Int)),(10,.sc (.sl 384 0 66 1 none)),(9,.sc (.sl 352 0 ((part1 (FD36w64 p0) 64 0 32).length) 1 none)),(8,.sc (.sl 288 0 32 1 none)),(7,.sc (.sl 192 0 32 1 none)),(6,.sc (.sl 112 0 32 1 none))],[(384,.ints .i64 66 (z1.set (k0 + k1) (iAdd .i64 (z1.getD (k0 + k1) 0) (iMul .i64 (IntKind.wrap .i64 ((FT31 (part1 (FT26 (FT27 (part1 (FT31 (part1 (FD36w64 p0) 64 32 32) p1 ([]:List Int)) 32 0 32) (FT30))) 32 0 32) (part1 (FT11 p0) 32 0 32) p1).getD k0 0)) (IntKind.wrap .i64 ((F44 (part1 (FD36w64 p0) 64 0 32)).getD k1 0)))))),(352,.ints .u8 ((part1 (FD36w64 p0) 64 0 32).length) (F44 (part1 (FD36w64 p0) 64 0 32))),(288,.ints .u8 32 (FT31 (part1 (FT26 (FT27 (part1 (FT31 (part1 (FD36w64 p0) 64 32 32) p1 ([]:List Int)) 32 0 32) (FT30))) 32 0 32) (part1 (FT11 p0) 32 0 32) p1)),(192,.ints .u8 32 (FT26 (FT27 (part1 (FT31 (part1 (FD36w64 p0) 64 32 32) p1 ([]:List Int)) 32 0 32) (FT30)))),(112,.ints .u8 32 (FT31 (part1 (FD36w64 p0) 64 32 32) p1 ([]:List Int)))])
      1024 (⟨tt,⟨tt,⟨tt,⟨⟨trivial,(iAdd_nat (a:=k0) (b:=k1) (by omega))⟩,⟨⟨(by omega),trivial⟩,⟨⟨(by omega),trivial⟩,⟨tt,⟨tt,⟨⟨(by omega),trivial⟩,⟨⟨(by omega),trivial⟩,⟨tt,⟨tt,⟨tt,⟨⟨(by omega),trivial⟩,⟨⟨(by omega),trivial⟩,⟨tt,⟨tt,⟨tt,⟨⟨(by omega),trivial⟩,⟨⟨⟨(by omega),(rfl)⟩,trivial⟩,trivial⟩⟩⟩⟩⟩⟩⟩⟩⟩⟩⟩⟩⟩⟩⟩⟩⟩⟩⟩⟩) ?_
    change Tri _ _ _ _ _ _
    refine Tri.len 384 rfl (fun hl47 => ?_)
    refine Tri.len 352 rfl (fun hl48 => ?_)
    refine Tri.len 288 rfl (fun hl49 => ?_)
    refine Tri.len 192 rfl (fun hl50 => ?_)
    refine Tri.len 112 rfl (fun hl51 => ?_)
    refine rr [(53,.i .i64 ((k1 + 1:Nat):Int))] none [12,11,10,9,8,7,6] [384,352,288,192,112] (TT∧((True∧((iAdd .i64 (k1:Int) 1)=((k1 + 1:Nat):Int)))∧(TT∧True)))
      ([(12,qi ((k1 + 1:Nat):Int)),(11,qi (k0:Int)),(10,.sc (.sl 384 0 66 1 none)),(9,.sc (.sl 352 0 ((part1 (FD36w64 p0) 64 0 32).length) 1 none)),(8,.sc (.sl 288 0 32 1 none)),(7,.sc (.sl 192 0 32 1 none)),(6,.sc (.sl 112 0 32 1 none))],[(384,.ints .i64 66 (z1.set (k0 + k1) (iAdd .i64 (z1.getD (k0 + k1) 0) (iMul .i64 (IntKind.wrap .i64 ((FT31 (part1 (FT26 (FT27 (part1 (FT31 (part1 (FD36w64 p0) 64 32 32) p1 ([]:List Int)) 32 0 32) (FT30))) 32 0 32) (part1 (FT11 p0) 32 0 32) p1).getD k0 0)) (IntKind.wrap .i64 ((F44 (part1 (FD36w64 p0) 64 0 32)).getD k1 0)))))),(352,.ints .u8 ((part1 (FD36w64 p0) 64 0 32).length) (F44 (part1 (FD36w64 p0) 64 0 32))),(288,.ints .u8 32 (FT31 (part1 (FT26 (FT27 (part1 (FT31 (part1 (FD36w64 p0) 64 32 32) p1 ([]:List Int)) 32 0 32) (FT30))) 32 0 32) (part1 (FT11 p0) 32 0 32) p1)),(192,.ints .u8 32 (FT26 (FT27 (part1 (FT31 (part1 (FD36w64 p0) 64 32 32) p1 ([]:List Int)) 32 0 32) (FT30)))),(112,.ints .u8 32 (FT31 (part1 (FD36w64 p0) 64 32 32) p1 ([]:List Int)))])
      1072 (⟨tt,⟨⟨trivial,(iAdd_nat (a:=k1) (b:=1) (by omega))⟩,⟨tt,trivial⟩⟩⟩) ?_
    repeat (refine blkP_normal ?_)
    refine countP_normal (by omega) trivial ?_
    exact Sub.ren (ns:=[(384,384),(352,352),(288,288),(192,192),(112,112)]) (kf:=[12,11,10,9,8,7,6]) (by kernel_rfl) (by kernel_rfl)
   ·
    have h41':=of_decide_eq_false h41
    refine Tri.exit ?_
    have hend1:k1=32:=by (have:=of_decide_eq_false h41; omega)
    subst hend1; subst hz1
    change Tri _ _ _ _ _ _
    refine Tri.len 384 rfl (fun hl52 => ?_)
    refine Tri.len 352 rfl (fun hl53 => ?_)
    refine Tri.len 288 rfl (fun hl54 => ?_)
    refine Tri.len 192 rfl (fun hl55 => ?_)
    refine Tri.len 112 rfl (fun hl56 => ?_)
    refine rr [(38,.i .i64 ((k0 + 1:Nat):Int))] none [11,10,9,8,7,6] [384,352,288,192,112] (TT∧((True∧((iAdd .i64 (k0:Int) 1)=((k0 + 1:Nat):Int)))∧(TT∧True)))
      ([(11,qi ((k0 + 1:Nat):Int)),(10,.sc (.sl 384 0 66 1 none)),(9,.sc (.sl 352 0 ((part1 (FD36w64 p0) 64 0 32).length) 1 none)),(8,.sc (.sl 288 0 32 1 none)),(7,.sc (.sl 192 0 32 1 none)),(6,.sc (.sl 112 0 32 1 none))],[(384,.ints .i64 66 (itr (FT12l1 p0 p1 k0) 32 (z0.set k0 (iAdd .i64 (z0.getD k0 0) (IntKind.wrap .i64 ((FT31 (part1 (FD36w64 p0) 64 32 32) p1 ([]:List Int)).getD k0 0)))))),(352,.ints .u8 ((part1 (FD36w64 p0) 64 0 32).length) (F44 (part1 (FD36w64 p0) 64 0 32))),(288,.ints .u8 32 (FT31 (part1 (FT26 (FT27 (part1 (FT31 (part1 (FD36w64 p0) 64 32 32) p1 ([]:List Int)) 32 0 32) (FT30))) 32 0 32) (part1 (FT11 p0) 32 0 32) p1)),(192,.ints .u8 32 (FT26 (FT27 (part1 (FT31 (part1 (FD36w64 p0) 64 32 32) p1 ([]:List Int)) 32 0 32) (FT30)))),(112,.ints .u8 32 (FT31 (part1 (FD36w64 p0) 64 32 32) p1 ([]:List Int)))])
      752 (⟨tt,⟨⟨trivial,(iAdd_nat (a:=k0) (b:=1) (by omega))⟩,⟨tt,trivial⟩⟩⟩) ?_
    repeat (refine blkP_normal ?_)
    refine countP_normal (by omega) trivial ?_
    exact Sub.ren (ns:=[(384,384),(352,352),(288,288),(192,192),(112,112)]) (kf:=[11,10,9,8,7,6]) (by kernel_rfl) (by kernel_rfl)
  ·
   have h25':=of_decide_eq_false h25
   refine Tri.exit ?_
   have hend0:k0=32:=by (have:=of_decide_eq_false h25; omega)
   subst hend0; subst hz0
   change Tri _ _ _ _ _ _
   refine Tri.len 384 rfl (fun hl57 => ?_)
   refine Tri.len 352 rfl (fun hl58 => ?_)
   refine Tri.len 288 rfl (fun hl59 => ?_)
   refine Tri.len 192 rfl (fun hl60 => ?_)
   refine Tri.len 112 rfl (fun hl61 => ?_)
   refine sr [] none [13,10,7] [464,384,192] (((((0:Int)≤66∧(66:Int)=66)∧((66≤(140737488355328:Int))∧(((1:Nat):Int) * 66≤281474976710656)))∧True)∧(TT∧True))
     ([(13,.sc (.sl 464 0 66 1 none)),(10,.sc (.sl 384 0 66 1 none)),(7,.sc (.sl 192 0 32 1 none))],[(464,.ints .u8 66 (List.replicate 66 0)),(384,.ints .i64 66 (itr (FT12l0 p0 p1) 32 (List.replicate 66 0))),(192,.ints .u8 32 (FT26 (FT27 (part1 (FT31 (part1 (FD36w64 p0) 64 32 32) p1 ([]:List Int)) 32 0 32) (FT30))))])
     496 (⟨⟨⟨(by omega),⟨(by omega),(by omega)⟩⟩,trivial⟩,⟨tt,trivial⟩⟩) ?_
   refine Tri.len 464 rfl (fun hl62 => ?_)
   refine Tri.len 384 rfl (fun hl63 => ?_)
   refine Tri.len 192 rfl (fun hl64 => ?_)
   refine sr [] none [14,13,10,7] [464,384,192] (TT∧True)
     ([(14,qi 0),(13,.sc (.sl 464 0 66 1 none)),(10,.sc (.sl 384 0 66 1 none)),(7,.sc (.sl 192 0 32 1 none))],[(464,.ints .u8 66 (List.replicate 66 0)),(384,.ints .i64 66 (itr (FT12l0 p0 p1) 32 (List.replicate 66 0))),(192,.ints .u8 32 (FT26 (FT27 (part1 (FT31 (part1 (FD36w64 p0) 64 32 32) p1 ([]:List Int)) 32 0 32) (FT30))))])
     512 (⟨tt,trivial⟩) ?_
   refine Tri.seq ?_
   refine Tri.len 464 rfl (fun hl65 => ?_)
   refine Tri.len 384 rfl (fun hl66 => ?_)
   refine Tri.len 192 rfl (fun hl67 => ?_)
   refine sr [] none [15,14,13,10,7] [464,384,192] (TT∧True)
     ([(15,qi 0),(14,qi 0),(13,.sc (.sl 464 0 66 1 none)),(10,.sc (.sl 384 0 66 1 none)),(7,.sc (.sl 192 0 32 1 none))],[(464,.ints .u8 66 (List.replicate 66 0)),(384,.ints .i64 66 (itr (FT12l0 p0 p1) 32 (List.replicate 66 0))),(192,.ints .u8 32 (FT26 (FT27 (part1 (FT31 (part1 (FD36w64 p0) 64 32 32) p1 ([]:List Int)) 32 0 32) (FT30))))])
     528 (⟨tt,trivial⟩) ?_
   refine Tri.block ?_
   refine Tri.count 528 66 (FT12l2 p0 p1) (0,List.replicate 66 0) (fun k2 z2 => True) (fun k2 z2 => ([(15,qi (k2:Int)),(14,qi z2.1),(13,.sc (.sl 464 0 66 1 none)),(10,.sc (.sl 384 0 66 1 none)),(7,.sc (.sl 192 0 32 1 none))],[(464,.ints .u8 66 z2.2),(384,.ints .i64 66 (itr (FT12l0 p0 p1) 32 (List.replicate 66 0))),(192,.ints .u8 32 (FT26 (FT27 (part1 (FT31 (part1 (FD36w64 p0) 64 32 32) p1 ([]:List Int)) 32 0 32) (FT30))))])) trivial (Sub.of_eq (by kernel_rfl)) ?_
   intro k2 z2 hk2 hz2 hJ2
   refine Tri.seq ?_
   refine Tri.len 464 rfl (fun hl68 => ?_)
   refine Tri.len 384 rfl (fun hl69 => ?_)
   refine Tri.len 192 rfl (fun hl70 => ?_)
   refine sr [] none [75,15,14,13,10,7] [464,384,192] (TT∧(TT∧True))
     ([(75,.sc (.b (decide (((k2:Int):Int) < 66)))),(15,qi (k2:Int)),(14,qi z2.1),(13,.sc (.sl 464 0 66 1 none)),(10,.sc (.sl 384 0 66 1 none)),(7,.sc (.sl 192 0 32 1 none))],[(464,.ints .u8 66 z2.2),(384,.ints .i64 66 (itr (FT12l0 p0 p1) 32 (List.replicate 66 0))),(192,.ints .u8 32 (FT26 (FT27 (part1 (FT31 (part1 (FD36w64 p0) 64 32 32) p1 ([]:List Int)) 32 0 32) (FT30))))])
     560 (⟨tt,⟨tt,trivial⟩⟩) ?_
   refine Tri.cond (x:=(decide (((k2:Int):Int) < 66))) (by kernel_rfl) (fun h71 => ?_) (fun h71 => ?_)
   ·
    have h71':=of_decide_eq_true h71
    refine Tri.skip ?_
    change Tri _ _ _ _ _ _
    refine Tri.seq ?_
    refine Tri.block ?_
    refine Tri.len 464 rfl (fun hl72 => ?_)
    refine Tri.len 384 rfl (fun hl73 => ?_)
    refine Tri.len 192 rfl (fun hl74 => ?_)
    refine sr [] none [14,15,13,10,7] [464,384,192] (TT∧(TT∧(TT∧((((0:Int)≤(k2:Int)∧(k2:Int) < ((66:Nat):Int))∧True)∧(((k2 < 66)∧True)∧(TT∧(TT∧True)))))))
      ([(14,qi (iAdd .i64 z2.1 ((itr (FT12l0 p0 p1) 32 (List.replicate 66 0)).getD k2 0))),(15,qi (k2:Int)),(13,.sc (.sl 464 0 66 1 none)),(10,.sc (.sl 384 0 66 1 none)),(7,.sc (.sl 192 0 32 1 none))],[(464,.ints .u8 66 z2.2),(384,.ints .i64 66 (itr (FT12l0 p0 p1) 32 (List.replicate 66 0))),(192,.ints .u8 32 (FT26 (FT27 (part1 (FT31 (part1 (FD36w64 p0) 64 32 32) p1 ([]:List Int)) 32 0 32) (FT30))))])
      672 (⟨tt,⟨tt,⟨tt,⟨⟨(by omega),trivial⟩,⟨⟨(by omega),trivial⟩,⟨tt,⟨tt,trivial⟩⟩⟩⟩⟩⟩⟩) ?_
    refine Tri.len 464 rfl (fun hl75 => ?_)
    refine Tri.len 384 rfl (fun hl76 => ?_)
    refine Tri.len 192 rfl (fun hl77 => ?_)
    refine sr [] none [14,15,13,10,7] [464,384,192] (TT∧(TT∧(TT∧(((256 ≠ (0:Int))∧True)∧(TT∧((((0:Int)≤(k2:Int)∧(k2:Int) < ((66:Nat):Int))∧True)∧((((k2 < 66)∧(1=1))∧True)∧True)))))))
      ([(14,qi (iAdd .i64 z2.1 ((itr (FT12l0 p0 p1) 32 (List.replicate 66 0)).getD k2 0))),(15,qi (k2:Int)),(13,.sc (.sl 464 0 66 1 none)),(10,.sc (.sl 384 0 66 1 none)),(7,.sc (.sl 192 0 32 1 none))],[(464,.ints .u8 66 (z2.2.set k2 (IntKind.wrap .u8 (iRem (iAdd .i64 z2.1 ((itr (FT12l0 p0 p1) 32 (List.replicate 66 0)).getD k2 0)) 256)))),(384,.ints .i64 66 (itr (FT12l0 p0 p1) 32 (List.replicate 66 0))),(192,.ints .u8 32 (FT26 (FT27 (part1 (FT31 (part1 (FD36w64 p0) 64 32 32) p1 ([]:List Int)) 32 0 32) (FT30))))])
      784 (⟨tt,⟨tt,⟨tt,⟨⟨(by omega),trivial⟩,⟨tt,⟨⟨(by omega),trivial⟩,⟨⟨⟨(by omega),(rfl)⟩,trivial⟩,trivial⟩⟩⟩⟩⟩⟩⟩) ?_
    refine Tri.len 464 rfl (fun hl78 => ?_)
    refine Tri.len 384 rfl (fun hl79 => ?_)
    refine Tri.len 192 rfl (fun hl80 => ?_)
    refine rr [] none [14,15,13,10,7] [464,384,192] (TT∧(((256 ≠ (0:Int))∧True)∧(TT∧True)))
      ([(14,qi (iQuo .i64 (iAdd .i64 z2.1 ((itr (FT12l0 p0 p1) 32 (List.replicate 66 0)).getD k2 0)) 256)),(15,qi (k2:Int)),(13,.sc (.sl 464 0 66 1 none)),(10,.sc (.sl 384 0 66 1 none)),(7,.sc (.sl 192 0 32 1 none))],[(464,.ints .u8 66 (z2.2.set k2 (IntKind.wrap .u8 (iRem (iAdd .i64 z2.1 ((itr (FT12l0 p0 p1) 32 (List.replicate 66 0)).getD k2 0)) 256)))),(384,.ints .i64 66 (itr (FT12l0 p0 p1) 32 (List.replicate 66 0))),(192,.ints .u8 32 (FT26 (FT27 (part1 (FT31 (part1 (FD36w64 p0) 64 32 32) p1 ([]:List Int)) 32 0 32) (FT30))))])
      832 (⟨tt,⟨⟨(by omega),trivial⟩,⟨tt,trivial⟩⟩⟩) ?_
    change Tri _ _ _ _ _ _
    refine Tri.len 464 rfl (fun hl81 => ?_)
    refine Tri.len 384 rfl (fun hl82 => ?_)
    refine Tri.len 192 rfl (fun hl83 => ?_)
    refine rr [(77,.i .i64 ((k2 + 1:Nat):Int))] none [15,14,13,10,7] [464,384,192] (TT∧((True∧((iAdd .i64 (k2:Int) 1)=((k2 + 1:Nat):Int)))∧(TT∧True)))
      ([(15,qi ((k2 + 1:Nat):Int)),(14,qi (iQuo .i64 (iAdd .i64 z2.1 ((itr (FT12l0 p0 p1) 32 (List.replicate 66 0)).getD k2 0)) 256)),(13,.sc (.sl 464 0 66 1 none)),(10,.sc (.sl 384 0 66 1 none)),(7,.sc (.sl 192 0 32 1 none))],[(464,.ints .u8 66 (z2.2.set k2 (IntKind.wrap .u8 (iRem (iAdd .i64 z2.1 ((itr (FT12l0 p0 p1) 32 (List.replicate 66 0)).getD k2 0)) 256)))),(384,.ints .i64 66 (itr (FT12l0 p0 p1) 32 (List.replicate 66 0))),(192,.ints .u8 32 (FT26 (FT27 (part1 (FT31 (part1 (FD36w64 p0) 64 32 32) p1 ([]:List Int)) 32 0 32) (FT30))))])
      880 (⟨tt,⟨⟨trivial,(iAdd_nat (a:=k2) (b:=1) (by omega))⟩,⟨tt,trivial⟩⟩⟩) ?_
    repeat (refine blkP_normal ?_)
    refine countP_normal (by omega) trivial ?_
    exact Sub.ren (ns:=[(464,464),(384,384),(192,192)]) (kf:=[15,14,13,10,7]) (by kernel_rfl) (by kernel_rfl)
   ·
    have h71':=of_decide_eq_false h71
    refine Tri.exit ?_
    have hend2:k2=66:=by (have:=of_decide_eq_false h71; omega)
    subst hend2; subst hz2
    change Tri _ _ _ _ _ _
    refine Tri.len 464 rfl (fun hl84 => ?_)
    refine Tri.len 384 rfl (fun hl85 => ?_)
    refine Tri.len 192 rfl (fun hl86 => ?_)
    refine sr [] none [4] [608] (TT∧(TT∧(((((0 + 66≤66)∧True)∧((part1 ((itr (FT12l2 p0 p1) 66 (0,List.replicate 66 0)).2) 66 0 66).length≤1000))∧True)∧((((((True∧(1=1))∧((0 < 1)∧((64 * 1≤140737488355328)∧(64≤140737488355328))))∧(32=32 * 1))∧((1=1)∧(0 + 32 * 1=32)))∧True)∧(TT∧True)))))
      ([(4,.sc (.sl 608 0 64 1 none))],[(608,.ints .u8 64 ((FT26 (FT27 (part1 (FT31 (part1 (FD36w64 p0) 64 32 32) p1 ([]:List Int)) 32 0 32) (FT30))) ++ (FT32 (part1 ((itr (FT12l2 p0 p1) 66 (0,List.replicate 66 0)).2) 66 0 66))))])
      640 (⟨tt,⟨tt,⟨⟨⟨⟨(by omega),trivial⟩,(by first | omega | (rw [adr_eq]; omega) | exact iAnd_nn _ _ | exact iSub_nn _ _ | exact part1_le (by omega) (by first | omega | (simp only [List.length_append]; omega)) | decide)⟩,trivial⟩,⟨⟨⟨⟨⟨⟨trivial,(rfl)⟩,⟨(by omega),⟨(by omega),(by omega)⟩⟩⟩,(by omega)⟩,⟨(rfl),(by omega)⟩⟩,trivial⟩,⟨tt,trivial⟩⟩⟩⟩⟩) ?_
    refine Tri.ret ?_
    exact endP.ret [(608,0)] TT (by kernel_rfl) (by kernel_rfl) (by kernel_rfl) tt
noncomputable def FT14 (p0:List Int) (p1:List Int) (p2:List Int):Bool :=
 (sel (!(FT40_1 p0)) false (sel (((p2.length:Int):Int) != 64) false (sel (!(FT41 ((p2.drop 32).take (p2.length - 32)) (part1 [237,211,245,92,26,99,18,88,214,156,247,162,222,249,222,20,0,0,0,0,0,0,0,0,0,0,0,0,0,0,0,16] 32 0 32))) false (strEq (bytesOf (((FT26 (FT44 (FT27 ((p2.drop 32).take (p2.length - 32)) (FT30)) (FT27 (part1 (FT31 ((p2.drop 0).take 32) p0 p1) 32 0 32) (splice (FT40 p0) 0 (FT42 (FT43 0) (((FT40 p0).drop 0).take 16)))) (FT45))).drop 0).take 32)) (bytesOf ((p2.drop 0).take 32))))))
noncomputable def ST14:List AV→Option (Prop × Ret)
 | [.sc (.ro .u8 p0),.sc (.ro .u8 p1),.sc (.ro .u8 p2)] => some (p1.length≤10000,⟨.sc (.b (FT14 p0 p1 p2)),[]⟩)
 | _ => none
noncomputable def BT14:Bs:={ P:=Go.Proofs.Tryd.prog,G:=gD,tab:=tabOf [(15,⟨[],1,ST15⟩),(26,⟨[.val],1,ST26⟩),(27,⟨[.ro .u8,.val],0,ST27⟩),(30,⟨[],0,ST30⟩),(31,⟨[.ro .u8,.ro .u8,.ro .u8],1,ST31⟩),(40,⟨[.ro .u8],0,ST40⟩),(41,⟨[.ro .u8,.ro .u8],0,ST41⟩),(42,⟨[.val,.val],0,ST42⟩),(43,⟨[.val],0,ST43⟩),(44,⟨[.val,.val,.val],0,ST44⟩),(45,⟨[],0,ST45⟩)],n:=52 }
theorem BT14.ok:BT14.Ok:=⟨tabOk (P:=Go.Proofs.Tryd.prog) (G:=gD) (l:=[(15,⟨[],1,ST15⟩),(26,⟨[.val],1,ST26⟩),(27,⟨[.ro .u8,.val],0,ST27⟩),(30,⟨[],0,ST30⟩),(31,⟨[.ro .u8,.ro .u8,.ro .u8],1,ST31⟩),(40,⟨[.ro .u8],0,ST40⟩),(41,⟨[.ro .u8,.ro .u8],0,ST41⟩),(42,⟨[.val,.val],0,ST42⟩),(43,⟨[.val],0,ST43⟩),(44,⟨[.val,.val,.val],0,ST44⟩),(45,⟨[],0,ST45⟩)]) (And.intro KT15 (And.intro KT26 (And.intro KT27 (And.intro KT30 (And.intro KT31 (And.intro KT40 (And.intro KT41 (And.intro KT42 (And.intro KT43 (And.intro KT44 (And.intro KT45 True.intro))))))))))),mixed⟩
theorem KT14:Known Go.Proofs.Tryd.prog gD 14 ⟨[.ro .u8,.ro .u8,.ro .u8],0,ST14⟩:=by
 refine Known.walk (B:=BT14) (fn:=Go.Proofs.Tryd.f14) BT14.ok (by kernel_rfl) rfl (by kernel_rfl) (by kernel_rfl) (by decide) ?_ ?_
 ·intro vs C r h
  simp only at h
  unfold ST14 at h
  split at h
  ·cases h; rfl
  ·cases h
 ·intro E args C r h hC hlen
  simp only at h
  unfold ST14 at h
  split at h
  rotate_left
  ·cases h
  rename_i p0 p1 p2
  cases h
  simp only [lens] at hlen
  refine ⟨show 3≤52 from by decide,?_⟩
  refine Tri.sub (Sub.of_eq (show _=([(0,qr p0),(1,qr p1),(2,qr p2)],[]) from rfl)) ?_
  refine sr [] none [0,1,2] [] (TT∧True)
    ([(0,qr p0),(1,qr p1),(2,qr p2)],[])
    16 (⟨tt,trivial⟩) ?_
  refine sr [] none [8,7,0,1,2] [96] (TT∧((TT∧True)∧(TT∧(TT∧(TT∧(TT∧(((True∧(48=48))∧True)∧(TT∧True))))))))
    ([(8,.sc (.b (FT40_1 p0))),(7,qp 96 0),(0,qr p0),(1,qr p1),(2,qr p2)],[(96,.ints .i64 48 (FT40 p0))])
    144 (⟨tt,⟨⟨tt,trivial⟩,⟨tt,⟨tt,⟨tt,⟨tt,⟨⟨⟨trivial,(rfl)⟩,trivial⟩,⟨tt,trivial⟩⟩⟩⟩⟩⟩⟩⟩) ?_
  refine Tri.seq ?_
  refine Tri.split (!(FT40_1 p0)) (fun h1 => ?_) (fun h1 => ?_)
  ·
   refine sr [(16,.b true)] (some [0,1,3,7,15,31,63,127,255,511,255,2047,4095,8191]) [27,7,0,1,2] [96] (TT∧(TT∧((True∧((!(FT40_1 p0))=true))∧(TT∧(TT∧(TT∧(TT∧(TT∧(TT∧(TT∧(TT∧(TT∧(TT∧(TT∧True))))))))))))))
     ([(27,.sc (.b true)),(7,qp 96 0),(0,qr p0),(1,qr p1),(2,qr p2)],[(96,.ints .i64 48 (FT40 p0))])
     368 (⟨tt,⟨tt,⟨⟨trivial,(h1)⟩,⟨tt,⟨tt,⟨tt,⟨tt,⟨tt,⟨tt,⟨tt,⟨tt,⟨tt,⟨tt,⟨tt,trivial⟩⟩⟩⟩⟩⟩⟩⟩⟩⟩⟩⟩⟩⟩) ?_
   refine Tri.cond_true (by kernel_rfl) ?_
   refine sr [] none [6] [] (TT∧True)
     ([(6,.sc (.b false))],[])
     384 (⟨tt,trivial⟩) ?_
   refine Tri.ret ?_
   repeat (first | refine thenP_ret ?_ | refine blkP_ret ?_ | refine countP_ret ?_ | refine joinP_ret ?_)
   refine endP.conv (r':=⟨.sc (.b false),[]⟩) (by simp only [FT14,h1,sel_true,sel_false]) ?_
   exact endP.ret [] TT (by kernel_rfl) (by kernel_rfl) (by kernel_rfl) tt
  ·
   refine Tri.split (((p2.length:Int):Int) != 64) (fun h2 => ?_) (fun h2 => ?_)
   ·
    have h2':=ne_true_i h2
    refine sr [(16,.b false),(21,.b true)] (some [0,1,3,7,15,31,63,127,255,511,255,2047,4095,8191]) [27,7,0,1,2] [96] (TT∧(TT∧((True∧((!(FT40_1 p0))=false))∧(TT∧(TT∧(TT∧(TT∧((True∧((((p2.length:Int):Int) != 64)=true))∧(TT∧(TT∧(TT∧(TT∧(TT∧(TT∧True))))))))))))))
      ([(27,.sc (.b true)),(7,qp 96 0),(0,qr p0),(1,qr p1),(2,qr p2)],[(96,.ints .i64 48 (FT40 p0))])
      368 (⟨tt,⟨tt,⟨⟨trivial,(h1)⟩,⟨tt,⟨tt,⟨tt,⟨tt,⟨⟨trivial,(h2)⟩,⟨tt,⟨tt,⟨tt,⟨tt,⟨tt,⟨tt,trivial⟩⟩⟩⟩⟩⟩⟩⟩⟩⟩⟩⟩⟩⟩) ?_
    refine Tri.cond_true (by kernel_rfl) ?_
    refine sr [] none [6] [] (TT∧True)
      ([(6,.sc (.b false))],[])
      384 (⟨tt,trivial⟩) ?_
    refine Tri.ret ?_
    repeat (first | refine thenP_ret ?_ | refine blkP_ret ?_ | refine countP_ret ?_ | refine joinP_ret ?_)
    refine endP.conv (r':=⟨.sc (.b false),[]⟩) (by simp only [FT14,h1,h2,sel_true,sel_false]) ?_
    exact endP.ret [] TT (by kernel_rfl) (by kernel_rfl) (by kernel_rfl) tt
   ·
    have h2':=ne_false_i h2
    refine Tri.len 96 rfl (fun hl3 => ?_)
    refine sr [(16,.b false),(21,.b false)] (some [0,1,3,7,15,31,63,127,255,511,255,2047,4095,8191]) [27,7,0,1,2] [96] (TT∧(TT∧((True∧((!(FT40_1 p0))=false))∧(TT∧(TT∧(TT∧(TT∧((True∧((((p2.length:Int):Int) != 64)=false))∧(TT∧((((0:Int)≤32∧(32:Int)≤(p2.length:Int)∧(p2.length:Int)≤(p2.length:Int))∧True)∧((TT∧True)∧(((((0 + 32≤32)∧True)∧(((p2.drop 32).take (p2.length - 32)).length=32∧(part1 [237,211,245,92,26,99,18,88,214,156,247,162,222,249,222,20,0,0,0,0,0,0,0,0,0,0,0,0,0,0,0,16] 32 0 32).length=32))∧True)∧(TT∧(TT∧True))))))))))))))
      ([(27,.sc (.b (!(FT41 ((p2.drop 32).take (p2.length - 32)) (part1 [237,211,245,92,26,99,18,88,214,156,247,162,222,249,222,20,0,0,0,0,0,0,0,0,0,0,0,0,0,0,0,16] 32 0 32))))),(7,qp 96 0),(0,qr p0),(1,qr p1),(2,qr p2)],[(96,.ints .i64 48 (FT40 p0))])
      368 (⟨tt,⟨tt,⟨⟨trivial,(h1)⟩,⟨tt,⟨tt,⟨tt,⟨tt,⟨⟨trivial,(h2)⟩,⟨tt,⟨⟨(by omega),trivial⟩,⟨⟨tt,trivial⟩,⟨⟨⟨⟨(by omega),trivial⟩,(⟨by rw [List.length_take,List.length_drop]; omega,by rw [part1_all (n:=32) rfl]; rfl⟩)⟩,trivial⟩,⟨tt,⟨tt,trivial⟩⟩⟩⟩⟩⟩⟩⟩⟩⟩⟩⟩⟩⟩) ?_
    refine Tri.cond (x:=(!(FT41 ((p2.drop 32).take (p2.length - 32)) (part1 [237,211,245,92,26,99,18,88,214,156,247,162,222,249,222,20,0,0,0,0,0,0,0,0,0,0,0,0,0,0,0,16] 32 0 32)))) (by kernel_rfl) (fun h4 => ?_) (fun h4 => ?_)
    ·
     refine sr [] none [6] [] (TT∧True)
       ([(6,.sc (.b false))],[])
       384 (⟨tt,trivial⟩) ?_
     refine Tri.ret ?_
     repeat (first | refine thenP_ret ?_ | refine blkP_ret ?_ | refine countP_ret ?_ | refine joinP_ret ?_)
     refine endP.conv (r':=⟨.sc (.b false),[]⟩) (by simp only [FT14,h1,h2,h4,sel_true,sel_false]) ?_
     exact endP.ret [] TT (by kernel_rfl) (by kernel_rfl) (by kernel_rfl) tt
    ·
     refine Tri.skip ?_
     change Tri _ _ _ _ _ _
     refine sr [] (some [0,0,2,7,15,31]) [7,0,1,2] [96] ((TT∧True)∧(TT∧(((0 + 16≤48)∧True)∧((TT∧True)∧(TT∧((((0 + 16≤48)∧(16=16))∧True)∧True))))))
       ([(7,qp 96 0),(0,qr p0),(1,qr p1),(2,qr p2)],[(96,.ints .i64 48 (splice (FT40 p0) 0 (FT42 (FT43 0) (((FT40 p0).drop 0).take 16))))])
       464 (⟨⟨tt,trivial⟩,⟨tt,⟨⟨(by omega),trivial⟩,⟨⟨tt,trivial⟩,⟨tt,⟨⟨⟨(by omega),(rfl)⟩,trivial⟩,trivial⟩⟩⟩⟩⟩⟩) ?_
     refine Tri.len 96 rfl (fun hl5 => ?_)
     refine sr [] (some [0,1,0,7,0,16,0,0,255,0,1023,2047,4095,8191,16383,0,32768,98304,262143,524287]) [6] [] (TT∧((((0:Int)≤32∧(32:Int)≤(p2.length:Int)∧(p2.length:Int)≤(p2.length:Int))∧True)∧((TT∧True)∧(((True∧(((p2.drop 32).take (p2.length - 32)).length≤1000000))∧True)∧(TT∧((((0:Int)≤0∧(0:Int)≤32∧32≤(p2.length:Int))∧True)∧(TT∧(TT∧(((True∧(((p2.drop 0).take 32).length + p0.length + p1.length≤1000000))∧True)∧(TT∧(((((0 + 32≤32)∧True)∧((part1 (FT31 ((p2.drop 0).take 32) p0 p1) 32 0 32).length≤1000000))∧True)∧((TT∧True)∧((TT∧True)∧((TT∧True)∧(((0 + 32≤32)∧True)∧(TT∧((((0:Int)≤0∧(0:Int)≤32∧32≤(p2.length:Int))∧True)∧(TT∧(TT∧(TT∧True))))))))))))))))))))
       ([(6,.sc (.b (strEq (bytesOf (((FT26 (FT44 (FT27 ((p2.drop 32).take (p2.length - 32)) (FT30)) (FT27 (part1 (FT31 ((p2.drop 0).take 32) p0 p1) 32 0 32) (splice (FT40 p0) 0 (FT42 (FT43 0) (((FT40 p0).drop 0).take 16)))) (FT45))).drop 0).take 32)) (bytesOf ((p2.drop 0).take 32)))))],[])
       784 (⟨tt,⟨⟨(by omega),trivial⟩,⟨⟨tt,trivial⟩,⟨⟨⟨trivial,(by first | (rw [List.length_take,List.length_drop]; omega) | exact part1_le (by decide) (by rw [lenT31]; decide))⟩,trivial⟩,⟨tt,⟨⟨(by omega),trivial⟩,⟨tt,⟨tt,⟨⟨⟨trivial,(by exact three_le (by first | omega | (rw [List.length_take]; omega) | (have hl:=lenT40 (p0:=p0) h1; omega)) (by first | omega | (rw [List.length_take]; omega) | (have hl:=lenT40 (p0:=p0) h1; omega)) (by first | omega | (rw [List.length_take]; omega) | (have hl:=lenT40 (p0:=p0) h1; omega)))⟩,trivial⟩,⟨tt,⟨⟨⟨⟨(by omega),trivial⟩,(by first | (rw [List.length_take,List.length_drop]; omega) | exact part1_le (by decide) (by rw [lenT31]; decide))⟩,trivial⟩,⟨⟨tt,trivial⟩,⟨⟨tt,trivial⟩,⟨⟨tt,trivial⟩,⟨⟨(by omega),trivial⟩,⟨tt,⟨⟨(by omega),trivial⟩,⟨tt,⟨tt,⟨tt,trivial⟩⟩⟩⟩⟩⟩⟩⟩⟩⟩⟩⟩⟩⟩⟩⟩⟩⟩⟩⟩) ?_
     refine Tri.ret ?_
     repeat (first | refine thenP_ret ?_ | refine blkP_ret ?_ | refine countP_ret ?_ | refine joinP_ret ?_)
     refine endP.conv (r':=⟨.sc (.b (strEq (bytesOf (((FT26 (FT44 (FT27 ((p2.drop 32).take (p2.length - 32)) (FT30)) (FT27 (part1 (FT31 ((p2.drop 0).take 32) p0 p1) 32 0 32) (splice (FT40 p0) 0 (FT42 (FT43 0) (((FT40 p0).drop 0).take 16)))) (FT45))).drop 0).take 32)) (bytesOf ((p2.drop 0).take 32)))),[]⟩) (by simp only [FT14,h1,h2,h4,sel_true,sel_false]) ?_
     exact endP.ret [] TT (by kernel_rfl) (by kernel_rfl) (by kernel_rfl) tt
end Go.Vm
set_option linter.unusedVariables false
namespace Go.Vm
open Go
def num (B:Int):List Int→Int
 | [] => 0
 | a :: bs => a + B * num B bs
def digs (B:Int):Nat→Int→List Int
 | 0,_ => []
 | n + 1,v => v % B :: digs B n (v / B)
def Dig (B:Int) (xs:List Int):Prop:=∀ x ∈ xs,0≤x∧x < B
theorem num_cons (B a:Int) (bs:List Int):num B (a :: bs)=a + B * num B bs:=rfl
theorem digs_succ (B v:Int) (n:Nat):digs B (n + 1) v=v % B :: digs B n (v / B):=rfl
theorem Dig.cons {B a:Int} {bs:List Int} (h:Dig B (a :: bs)):(0≤a∧a < B)∧Dig B bs :=
 ⟨h a (by simp),fun x hx => h x (List.mem_cons_of_mem _ hx)⟩
theorem Dig.mk_cons {B a:Int} {bs:List Int} (h:0≤a∧a < B) (h':Dig B bs):Dig B (a :: bs):=by
 intro x hx
 rcases List.mem_cons.1 hx with rfl | hx
 ·exact h
 ·exact h' x hx
theorem Dig.nil {B:Int}:Dig B []:=fun _ h => by cases h
theorem pow2_mono {a b:Nat} (h:a≤b):(2:Int) ^ a≤2 ^ b:=by
 obtain ⟨d,rfl⟩:=Nat.exists_eq_add_of_le h
 have h1:(0:Int) < 2 ^ a:=Int.pow_pos (by decide)
 have h2:(0:Int) < 2 ^ d:=Int.pow_pos (by decide)
 have h3:=Int.mul_le_mul_of_nonneg_left (a:=1) (b:=2 ^ d) (c:=2 ^ a) (by omega) (by omega)
 rw [Int.pow_add]
 omega
theorem pow_pos' {B:Int} (hB:0 < B) (n:Nat):0 < B ^ n:=Int.pow_pos hB
theorem num_bd {B:Int} (hB:0 < B):∀ {xs:List Int},Dig B xs→0≤num B xs∧num B xs < B ^ xs.length
 | [],_ => by simp [num]
 | a :: bs,h => by
  obtain ⟨ha,hs⟩:=h.cons
  obtain ⟨h1,h2⟩:=num_bd hB hs
  have h3:0≤B * num B bs:=Int.mul_nonneg (by omega) h1
  have h4:B * (num B bs + 1)≤B * B ^ bs.length:=Int.mul_le_mul_of_nonneg_left (by omega) (by omega)
  rw [num_cons,List.length_cons,Int.pow_succ,Int.mul_comm (B ^ _) B]
  rw [Int.mul_add] at h4
  omega
theorem digs_length (B:Int):∀ (n:Nat) (v:Int),(digs B n v).length=n
 | 0,_ => rfl
 | n + 1,v => by rw [digs_succ,List.length_cons,digs_length B n]
theorem digs_dig {B:Int} (hB:0 < B):∀ (n:Nat) (v:Int),Dig B (digs B n v)
 | 0,_ => Dig.nil
 | n + 1,v => Dig.mk_cons ⟨Int.emod_nonneg _ (by omega),Int.emod_lt_of_pos _ hB⟩ (digs_dig hB n _)
theorem num_digs {B:Int} (hB:0 < B):∀ (n:Nat) (v:Int),num B (digs B n v)=v % B ^ n
 | 0,v => by simp [digs,num]
 | n + 1,v => by
  rw [digs_succ,num_cons,num_digs hB n,Int.pow_succ,Int.mul_comm (B ^ n) B]
  have h1:=Int.emod_nonneg v (b:=B) (by omega)
  have h2:=Int.emod_lt_of_pos v hB
  have h3:=Int.emod_add_mul_ediv v B
  have h4:=Int.emod_add_mul_ediv (v / B) (B ^ n)
  have hn:=pow_pos' hB n
  have h5:=Int.emod_nonneg (v / B) (b:=B ^ n) (by omega)
  have h6:=Int.emod_lt_of_pos (v / B) hn
  have h7:B * (v / B % B ^ n + 1)≤B * B ^ n:=Int.mul_le_mul_of_nonneg_left (by omega) (by omega)
  have h8:0≤B * (v / B % B ^ n):=Int.mul_nonneg (by omega) h5
  rw [Int.mul_add] at h7
  have e:v=(v % B + B * (v / B % B ^ n)) + (B * B ^ n) * (v / B / B ^ n):=by
   rw [Int.mul_assoc]
   rw [Int.add_assoc,← Int.mul_add,h4,h3]
  have e2:v % (B * B ^ n)=(v % B + B * (v / B % B ^ n)) % (B * B ^ n):=by
   conv => lhs; rw [e]
   rw [Int.add_mul_emod_self_left]
  rw [e2]
  exact (Int.emod_eq_of_lt (by omega) (by omega)).symm
theorem digs_num {B:Int} (hB:0 < B):∀ {xs:List Int},Dig B xs→digs B xs.length (num B xs)=xs
 | [],_ => rfl
 | a :: bs,h => by
  obtain ⟨ha,hs⟩:=h.cons
  rw [List.length_cons,digs_succ,num_cons,Int.add_mul_emod_self_left,Int.emod_eq_of_lt ha.1 ha.2,Int.add_mul_ediv_left _ _ (by omega),Int.ediv_eq_zero_of_lt ha.1 ha.2,Int.zero_add,digs_num hB hs]
theorem digs_of {B:Int} (hB:0 < B) {xs:List Int} {n:Nat} {v:Int} (h:Dig B xs) (hn:xs.length=n) (hv:num B xs=v):xs=digs B n v:=by
 rw [← digs_num hB h,hn,hv]
theorem num_set {B:Int}:∀ {xs:List Int} {i:Nat} {x:Int},i < xs.length→num B (xs.set i x)=num B xs + (x - xs.getD i 0) * B ^ i
 | [],i,x,h => by simp at h
 | a :: bs,0,x,h => by simp [num]; omega
 | a :: bs,i + 1,x,h => by
  have:=num_set (B:=B) (xs:=bs) (i:=i) (x:=x) (by simpa using h)
  rw [List.set_cons_succ,num_cons,this,num_cons,List.getD_cons_succ,Int.pow_succ,Int.mul_add]
  have:B * ((x - bs.getD i 0) * B ^ i)=(x - bs.getD i 0) * (B ^ i * B):=by rw [Int.mul_comm B,Int.mul_assoc]
  omega
theorem dig_set {B:Int} {xs:List Int} {i:Nat} {x:Int} (h:Dig B xs) (hx:0≤x∧x < B):Dig B (xs.set i x):=by
 intro y hy
 rcases List.mem_or_eq_of_mem_set hy with h1 | h1
 ·exact h y h1
 ·rw [h1]; exact hx
theorem getD_num {B:Int} (hB:0 < B):∀ {xs:List Int} {i:Nat},Dig B xs→xs.getD i 0=num B xs / B ^ i % B
 | [],i,h => by simp [num]
 | a :: bs,0,h => by
  obtain ⟨ha,hs⟩:=h.cons
  rw [List.getD_cons_zero,num_cons,Int.pow_zero,Int.ediv_one,Int.add_mul_emod_self_left,Int.emod_eq_of_lt ha.1 ha.2]
 | a :: bs,i + 1,h => by
  obtain ⟨ha,hs⟩:=h.cons
  rw [List.getD_cons_succ,getD_num hB (i:=i) hs,num_cons,Int.pow_succ,Int.mul_comm (B ^ i) B,← Int.ediv_ediv_of_nonneg (by omega),Int.add_mul_ediv_left _ _ (by omega),Int.ediv_eq_zero_of_lt ha.1 ha.2,Int.zero_add]
theorem getD_dig {B:Int} (hB:0 < B) {xs:List Int} {i:Nat} (h:Dig B xs):0≤xs.getD i 0∧xs.getD i 0 < B:=by
 rw [getD_num hB h]
 exact ⟨Int.emod_nonneg _ (by omega),Int.emod_lt_of_pos _ hB⟩
theorem num_take {B:Int}:∀ {xs:List Int} {i:Nat},num B (xs.take (i + 1))=num B (xs.take i) + xs.getD i 0 * B ^ i
 | [],i => by simp [num]
 | a :: bs,0 => by simp [num]
 | a :: bs,i + 1 => by
  have:=num_take (B:=B) (xs:=bs) (i:=i)
  rw [List.take_succ_cons,num_cons,this,List.take_succ_cons,num_cons,List.getD_cons_succ,Int.pow_succ,Int.mul_add]
  have:B * (bs.getD i 0 * B ^ i)=bs.getD i 0 * (B ^ i * B):=by rw [Int.mul_comm B,Int.mul_assoc]
  omega
theorem num_zeros (B:Int):∀ n,num B (List.replicate n 0)=0
 | 0 => rfl
 | n + 1 => by rw [List.replicate_succ,num_cons,num_zeros B n]; simp
theorem emod_ediv_bit (x:Int) {m r:Nat} (h:r < m):x % 2 ^ m / 2 ^ r % 2=x / 2 ^ r % 2:=by
 obtain ⟨d,rfl⟩:∃ d,m=r + (d + 1):=⟨m - r - 1,by omega⟩
 have hr:=pow_pos' (B:=2) (by decide) r
 have e1:=Int.emod_add_mul_ediv x (2 ^ (r + (d + 1)))
 have e2:x / 2 ^ r=x % 2 ^ (r + (d + 1)) / 2 ^ r + 2 * (2 ^ d * (x / 2 ^ (r + (d + 1)))):=by
  conv => lhs; rw [← e1]
  rw [Int.pow_add,Int.mul_assoc,Int.add_mul_ediv_left _ _ (by omega),Int.pow_succ,Int.mul_comm (2 ^ d) 2,Int.mul_assoc]
 rw [e2,Int.add_mul_emod_self_left]
theorem digit_bit {m:Nat} (hm:0 < m) {xs:List Int} (h:Dig (2 ^ m) xs) (k:Nat):xs.getD (k / m) 0 / 2 ^ (k % m) % 2=num (2 ^ m) xs / 2 ^ k % 2:=by
 have hB:=pow_pos' (B:=2) (by decide) m
 rw [getD_num hB h,emod_ediv_bit _ (Nat.mod_lt _ hm),Int.ediv_ediv_of_nonneg (Int.le_of_lt (pow_pos' hB _)),← Int.pow_mul,← Int.pow_add,Nat.div_add_mod]
theorem mod_bit (x:Int) (k:Nat):x % 2 ^ (k + 1)=x % 2 ^ k + x / 2 ^ k % 2 * 2 ^ k:=by
 have hk:=pow_pos' (B:=2) (by decide) k
 have e1:=Int.emod_add_mul_ediv x (2 ^ k)
 have e2:=Int.emod_add_mul_ediv (x / 2 ^ k) 2
 have h1:=Int.emod_nonneg x (b:=2 ^ k) (by omega)
 have h2:=Int.emod_lt_of_pos x hk
 have e:x=(x % 2 ^ k + x / 2 ^ k % 2 * 2 ^ k) + 2 ^ (k + 1) * (x / 2 ^ k / 2):=by
  rw [Int.pow_succ,Int.mul_assoc,Int.add_assoc,Int.mul_comm (x / 2 ^ k % 2),← Int.mul_add,e2,e1]
 conv => lhs; rw [e]
 rw [Int.add_mul_emod_self_left]
 rcases Int.emod_two_eq (x / 2 ^ k) with h | h <;> rw [h,Int.pow_succ] <;> exact Int.emod_eq_of_lt (by omega) (by omega)
theorem iOr_sum (u v:Int) (n:Nat) (hu:0≤u) (hv:0≤v) (hv':v < 2 ^ n) (h:u * 2 ^ n + v < 18446744073709551616):iOr .u64 (u * 2 ^ n) v=u * 2 ^ n + v:=by
 obtain ⟨a,rfl⟩:=Int.eq_ofNat_of_zero_le hu
 obtain ⟨b,rfl⟩:=Int.eq_ofNat_of_zero_le hv
 have hb:b < 2 ^ n:=by
  have h0:((2:Int) ^ n)=((2 ^ n:Nat):Int):=by rw [Int.natCast_pow]; rfl
  have h1:(b:Int) < 2 ^ n:=hv'
  rw [h0] at h1
  exact Int.ofNat_lt.1 h1
 have hab:a * 2 ^ n + b < 18446744073709551616:=by
  have h0:((a:Int) * 2 ^ n)=((a * 2 ^ n:Nat):Int):=by rw [Int.natCast_mul,Int.natCast_pow]; rfl
  have h1:((a:Int)) * 2 ^ n + (b:Int) < 18446744073709551616:=h
  rw [h0] at h1
  omega
 have e:((a:Int) * 2 ^ n)=((a * 2 ^ n:Nat):Int):=by rw [Int.natCast_mul,Int.natCast_pow]; rfl
 rw [e]
 unfold iOr
 rw [wrap_u64]
 show (((BitVec.ofInt 64 ((a * 2 ^ n:Nat):Int) ||| BitVec.ofInt 64 (b:Int)).toNat:Nat):Int) % 18446744073709551616=_
 rw [BitVec.ofInt_natCast,BitVec.ofInt_natCast,BitVec.toNat_or,BitVec.toNat_ofNat,BitVec.toNat_ofNat,Nat.mod_eq_of_lt (a:=a * 2 ^ n) (by omega),Nat.mod_eq_of_lt (a:=b) (by omega)]
 have:a * 2 ^ n ||| b=a * 2 ^ n + b:=by
  rw [Nat.mul_comm]; exact (Nat.two_pow_add_eq_or_of_lt hb a).symm
 rw [this]
 omega
theorem bits_step {m n k:Nat} (hm:0 < m) (hk:k < m * n) {t:List Int} {v x:Int} (ht:Dig (2 ^ m) t) (hn:t.length=n) (hv:num (2 ^ m) t=v % 2 ^ k) (hx:x=t.getD (k / m) 0 + v / 2 ^ k % 2 * 2 ^ (k % m)) :
  t.getD (k / m) 0 < 2 ^ (k % m)∧Dig (2 ^ m) (t.set (k / m) x)∧(t.set (k / m) x).length=n∧num (2 ^ m) (t.set (k / m) x)=v % 2 ^ (k + 1):=by
 have hB:=pow_pos' (B:=2) (by decide) m
 have hr:k % m < m:=Nat.mod_lt _ hm
 have hi:k / m < n:=by rw [Nat.div_lt_iff_lt_mul hm,Nat.mul_comm]; exact hk
 have hpk:=pow_pos' (B:=2) (by decide) k
 have hpr:=pow_pos' (B:=2) (by decide) (k % m)
 have h0:=getD_dig hB ht (i:=k / m)
 have hg:t.getD (k / m) 0 < 2 ^ (k % m):=by
  have h1:0≤v % 2 ^ k:=Int.emod_nonneg _ (by omega)
  have h2:v % 2 ^ k < 2 ^ k:=Int.emod_lt_of_pos _ hpk
  have e:(2:Int) ^ k=2 ^ (k % m) * (2 ^ m) ^ (k / m):=by
   rw [← Int.pow_mul,← Int.pow_add,Nat.mod_add_div]
  have h3:v % 2 ^ k / (2 ^ m) ^ (k / m) < 2 ^ (k % m):=by
   apply Int.ediv_lt_of_lt_mul (pow_pos' hB _)
   rw [← e]; exact h2
  have h4:0≤v % 2 ^ k / (2 ^ m) ^ (k / m):=Int.ediv_nonneg h1 (Int.le_of_lt (pow_pos' hB _))
  have h5:(2:Int) ^ (k % m)≤2 ^ m:=pow2_mono (by omega)
  rw [getD_num hB ht,hv,Int.emod_eq_of_lt h4 (by omega)]
  exact h3
 refine ⟨hg,dig_set ht ?_,by rw [List.length_set,hn],?_⟩
 ·have h5:(2:Int) ^ (k % m + 1)≤2 ^ m:=pow2_mono (by omega)
  rw [Int.pow_succ] at h5
  rw [hx]
  rcases Int.emod_two_eq (v / 2 ^ k) with h | h <;> rw [h] <;> omega
 ·rw [num_set (by omega),hv,hx,mod_bit]
  have e:(v / 2 ^ k % 2 * 2 ^ (k % m)) * (2 ^ m) ^ (k / m)=v / 2 ^ k % 2 * 2 ^ k:=by
   rw [Int.mul_assoc,← Int.pow_mul,← Int.pow_add,Nat.mod_add_div]
  rw [← e]
  congr 2
  omega
end Go.Vm
set_option linter.unusedVariables false
namespace Go.Vm
open Go
structure Uns (k:IntKind) (N:Nat):Prop where
 bits:2 ^ k.bits=N
 wrap:∀ x,k.wrap x=x % (N:Int)
theorem uns8:Uns .u8 256:=⟨rfl,wrap_u8⟩
theorem uns64:Uns .u64 18446744073709551616:=⟨rfl,wrap_u64⟩
theorem uns_bv {k:IntKind} {N:Nat} (h:Uns k N) {a:Nat} (ha:a < N):(BitVec.ofInt k.bits (a:Int)).toNat=a:=by
 rw [BitVec.ofInt_natCast,BitVec.toNat_ofNat,h.bits,Nat.mod_eq_of_lt ha]
theorem uns_small {k:IntKind} {N:Nat} (h:Uns k N) {a:Nat} (ha:a < N):k.wrap (a:Int)=(a:Int):=by
 rw [h.wrap]; exact Int.emod_eq_of_lt (by omega) (by omega)
theorem iOr_nat {k:IntKind} {N:Nat} (h:Uns k N) {a b:Nat} (ha:a < N) (hb:b < N):iOr k (a:Int) (b:Int)=((a ||| b:Nat):Int):=by
 have:a ||| b < N:=by rw [← h.bits] at *; exact Nat.or_lt_two_pow ha hb
 unfold iOr
 rw [BitVec.toNat_or,uns_bv h ha,uns_bv h hb,uns_small h this]
theorem iAnd_nat {k:IntKind} {N:Nat} (h:Uns k N) {a b:Nat} (ha:a < N) (hb:b < N):iAnd k (a:Int) (b:Int)=((a &&& b:Nat):Int):=by
 have:a &&& b < N:=by have:=Nat.and_le_left (n:=a) (m:=b); omega
 unfold iAnd
 rw [BitVec.toNat_and,uns_bv h ha,uns_bv h hb,uns_small h this]
theorem iXor_nat {k:IntKind} {N:Nat} (h:Uns k N) {a b:Nat} (ha:a < N) (hb:b < N):iXor k (a:Int) (b:Int)=((a ^^^ b:Nat):Int):=by
 have:a ^^^ b < N:=by rw [← h.bits] at *; exact Nat.xor_lt_two_pow ha hb
 unfold iXor
 rw [BitVec.toNat_xor,uns_bv h ha,uns_bv h hb,uns_small h this]
theorem int_nat {x:Int} {N:Nat} (h:0≤x∧x < (N:Int)):∃ a:Nat,x=(a:Int)∧a < N:=by
 obtain ⟨a,rfl⟩:=Int.eq_ofNat_of_zero_le h.1
 exact ⟨a,rfl,by omega⟩
theorem iAnd_one {k:IntKind} {N:Nat} (h:Uns k N) (hN:1 < N) {x:Int} (hx:0≤x∧x < (N:Int)):iAnd k x 1=x % 2:=by
 obtain ⟨a,rfl,ha⟩:=int_nat hx
 have:=iAnd_nat h ha hN
 rw [Nat.and_one_is_mod] at this
 exact this
theorem iOr_low {k:IntKind} {N:Nat} (h:Uns k N) {u v:Int} {n:Nat} (hu:0≤u) (hv:0≤v) (hv':v < 2 ^ n) (hb:v + u * 2 ^ n < (N:Int)):iOr k v (u * 2 ^ n)=v + u * 2 ^ n:=by
 obtain ⟨a,rfl⟩:=Int.eq_ofNat_of_zero_le hu
 obtain ⟨b,rfl⟩:=Int.eq_ofNat_of_zero_le hv
 have e:((a:Int) * 2 ^ n)=((a * 2 ^ n:Nat):Int):=by rw [Int.natCast_mul,Int.natCast_pow]; rfl
 have e2:((2:Int) ^ n)=((2 ^ n:Nat):Int):=by rw [Int.natCast_pow]; rfl
 rw [e] at hb ⊢
 rw [e2] at hv'
 rw [iOr_nat h (by omega) (by omega)]
 have:b ||| a * 2 ^ n=a * 2 ^ n + b:=by
  rw [Nat.or_comm,Nat.mul_comm]; exact (Nat.two_pow_add_eq_or_of_lt (by omega) a).symm
 rw [this]; omega
theorem two_pos (n:Nat):(0:Int) < 2 ^ n:=Int.pow_pos (by decide)
theorem bit_at {k:IntKind} {N:Nat} (h:Uns k N) (hN:1 < N) {x:Int} {n:Nat} (hn:n≤k.bits) (hx:0≤x∧x < (N:Int)):iAnd k (iShr k x (n:Int)) 1=x / 2 ^ n % 2:=by
 rw [iShr_at k x n hn,iAnd_one h hN]
 have h1:=two_pos n
 refine ⟨Int.ediv_nonneg hx.1 (by omega),?_⟩
 have:=Int.ediv_le_self (b:=2 ^ n) (a:=x) hx.1
 omega
theorem bit_in {k:IntKind} {N:Nat} (h:Uns k N) {old b:Int} {n:Nat} (hn:n < k.bits) (hb:b=0 ∨ b=1) (ho:0≤old) (ho':old < 2 ^ n):iOr k old (iShl k (k.wrap b) (n:Int))=old + b * 2 ^ n:=by
 have hp:=two_pos n
 have h1:(2:Int) ^ (n + 1)≤2 ^ k.bits:=pow2_mono (by omega)
 have h2:(2:Int) ^ k.bits=(N:Int):=by rw [← h.bits,Int.natCast_pow]; rfl
 rw [Int.pow_succ] at h1
 have hw:k.wrap b=b:=by rw [h.wrap]; exact Int.emod_eq_of_lt (by omega) (by omega)
 have hb1:b * 2 ^ n < (N:Int)∧0≤b * 2 ^ n∧old + b * 2 ^ n < (N:Int):=by rcases hb with rfl | rfl <;> omega
 rw [hw,iShl_at k b n (by omega),h.wrap,Int.emod_eq_of_lt hb1.2.1 hb1.1]
 exact iOr_low h (by omega) ho ho' hb1.2.2
theorem bit01 (x:Int) (n:Nat):x / 2 ^ n % 2=0 ∨ x / 2 ^ n % 2=1:=Int.emod_two_eq _
end Go.Vm
set_option linter.unusedVariables false
namespace Go.Vm
open Go
def Bd (K:Int) (xs:List Int):Prop:=∀ x ∈ xs,-K≤x∧x≤K
theorem Bd.at {K:Int} (hK:0≤K) {xs:List Int} (h:Bd K xs) (i:Nat):-K≤xs.getD i 0∧xs.getD i 0≤K:=by
 rw [List.getD_eq_getElem?_getD]
 cases hj:xs[i]? with
 | none => simp; omega
 | some v => exact h v (List.mem_of_getElem? hj)
theorem Bd.set {K:Int} {xs:List Int} {i:Nat} {v:Int} (h:Bd K xs) (hv:-K≤v∧v≤K):Bd K (xs.set i v):=by
 intro y hy
 rcases List.mem_or_eq_of_mem_set hy with h1 | h1
 ·exact h y h1
 ·rw [h1]; exact hv
theorem Dig.bd {B K:Int} (hK:B≤K) {xs:List Int} (h:Dig B xs):Bd K xs:=by
 intro x hx
 have:=h x hx
 omega
theorem num_abs {K:Int} (hK:0≤K):∀ {xs:List Int},Bd K xs→-(K * 65536 ^ xs.length - K)≤65535 * num 65536 xs∧65535 * num 65536 xs≤K * 65536 ^ xs.length - K
 | [],_ => by simp [num]
 | a :: bs,h => by
  obtain ⟨h1,h2⟩:=num_abs hK (xs:=bs) (fun x hx => h x (List.mem_cons_of_mem _ hx))
  have ha:=h a (by simp)
  rw [List.length_cons,num_cons,Int.pow_succ,← Int.mul_assoc K]
  omega
def ch (k:Nat) (z:Int × List Int):Int × List Int :=
 ((iShr .i64 (iAdd .i64 (z.2.getD k 0) z.1) 16),z.2.set k (iSub .i64 (iAdd .i64 (z.2.getD k 0) z.1) (iShl .i64 (iShr .i64 (iAdd .i64 (z.2.getD k 0) z.1) 16) 16)))
theorem shl_i64 {x:Int} {n:Nat} (hn:n≤64) (h:-9223372036854775808≤x * 2 ^ n) (h':x * 2 ^ n < 9223372036854775808):iShl .i64 x (n:Int)=x * 2 ^ n:=by
 rw [iShl_at .i64 x n hn]; exact wrap_small h h'
theorem ch_eq {k:Nat} {c:Int} {d:List Int} (h1:-2305843009213693952≤d.getD k 0∧d.getD k 0≤2305843009213693952) (h2:-70368744177664≤c∧c≤70368744177664) :
  ch k (c,d)=((d.getD k 0 + c) / 65536,d.set k ((d.getD k 0 + c) % 65536)):=by
 unfold ch
 simp only
 rw [iAdd_i64 (by omega) (by omega)]
 have hx:-4611686018427387904≤d.getD k 0 + c∧d.getD k 0 + c≤4611686018427387904:=by omega
 generalize d.getD k 0 + c=x at *
 have e:iShr .i64 x 16=x / 65536:=iShr_at .i64 x 16 (by decide)
 have e2:iShl .i64 (x / 65536) 16=x / 65536 * 65536:=shl_i64 (n:=16) (by decide) (by show _≤_ * (65536:Int); omega) (by show _ * (65536:Int) < _; omega)
 rw [e,e2,iSub_i64 (by omega) (by omega)]
 congr 2
 omega
theorem take_set_lt {α:Type} {xs:List α} {k:Nat} {v:α}:(xs.set k v).take k=xs.take k:=by
 rw [List.take_set,List.set_eq_of_length_le]
 rw [List.length_take]; omega
theorem chain_inv {d:List Int} (hd:Bd 2305843009213693952 d):∀ j,j≤d.length →
  (itr ch j (0,d)).2.length=d.length∧(∀ i,i < j→0≤(itr ch j (0,d)).2.getD i 0∧(itr ch j (0,d)).2.getD i 0 < 65536) ∧
  (∀ i,j≤i→(itr ch j (0,d)).2.getD i 0=d.getD i 0)∧(-70368744177664≤(itr ch j (0,d)).1∧(itr ch j (0,d)).1≤70368744177664) ∧
  num 65536 ((itr ch j (0,d)).2.take j) + (itr ch j (0,d)).1 * 65536 ^ j=num 65536 (d.take j):=by
 intro j
 induction j with
 | zero => intro _; rw [itr_zero]; refine ⟨rfl,fun i hi => absurd hi (by omega),fun _ _ => rfl,by simp only; omega,by simp [num]⟩
 | succ j ih =>
  intro hj
  obtain ⟨h1,h2,h3,h4,h5⟩:=ih (by omega)
  rw [itr_succ]
  generalize itr ch j (0,d)=z at *
  obtain ⟨c,d'⟩:=z
  simp only at h1 h2 h3 h4 h5
  have hb:=hd.at (by decide) j
  rw [← h3 j (Nat.le_refl j)] at hb
  rw [ch_eq hb h4]
  simp only
  refine ⟨by rw [List.length_set]; exact h1,?_,?_,?_,?_⟩
  ·intro i hi
   by_cases hij:i=j
   ·subst hij; rw [getD_set_eq (by omega)]; omega
   ·rw [getD_set_ne (by omega)]; exact h2 i (by omega)
  ·intro i hi
   rw [getD_set_ne (by omega)]; exact h3 i (by omega)
  ·omega
  ·rw [num_take,take_set_lt,getD_set_eq (by omega),num_take,← h3 j (Nat.le_refl j),← h5,Int.pow_succ]
   generalize (65536:Int) ^ j=p
   generalize d'.getD j 0=x
   have:=Int.emod_add_mul_ediv (x + c) 65536
   generalize (x + c) % 65536=r at *
   generalize (x + c) / 65536=q at *
   have e:x=r + 65536 * q - c:=by omega
   subst e
   grind -lia -linarith
theorem dig_of_getD {B:Int} {xs:List Int} (h:∀ i,i < xs.length→0≤xs.getD i 0∧xs.getD i 0 < B):Dig B xs:=by
 intro x hx
 obtain ⟨j,hj,rfl⟩:=List.mem_iff_getElem.1 hx
 have:=h j hj
 rw [List.getD_eq_getElem?_getD,List.getElem?_eq_getElem hj] at this
 exact this
theorem digs_mod:∀ (n:Nat) (v:Int),digs 65536 n (v % 65536 ^ n)=digs 65536 n v:=by
 intro n
 induction n with
 | zero => intro v; rfl
 | succ n ih =>
  intro v
  rw [digs_succ,digs_succ,Int.pow_succ,Int.mul_comm (65536 ^ n)]
  have hq:(0:Int) < 65536 ^ n:=Int.pow_pos (by decide)
  have a1:v % (65536 * 65536 ^ n) % 65536=v % 65536:=Int.emod_emod_of_dvd _ ⟨65536 ^ n,rfl⟩
  have a2:v % (65536 * 65536 ^ n) / 65536=v / 65536 % 65536 ^ n:=by
   have x1:=Int.emod_add_mul_ediv v (65536 * 65536 ^ n)
   have x2:v / (65536 * 65536 ^ n)=v / 65536 / 65536 ^ n:=(Int.ediv_ediv_of_nonneg (by decide)).symm
   have x3:=Int.emod_add_mul_ediv (v / 65536) (65536 ^ n)
   rw [x2,Int.mul_assoc] at x1
   generalize 65536 ^ n * (v / 65536 / 65536 ^ n)=y at *
   omega
  rw [a1,a2,ih]
theorem chain_val {d:List Int} {n:Nat} (hn:d.length=n) (hd:Bd 2305843009213693952 d):itr ch n (0,d)=(num 65536 d / 65536 ^ n,digs 65536 n (num 65536 d)):=by
 obtain ⟨h1,h2,h3,h4,h5⟩:=chain_inv hd n (by omega)
 generalize itr ch n (0,d)=z at *
 obtain ⟨c,d'⟩:=z
 simp only at h1 h2 h3 h4 h5
 rw [List.take_of_length_le (by omega),List.take_of_length_le (by omega)] at h5
 have hD:Dig 65536 d':=dig_of_getD (fun i hi => h2 i (by omega))
 obtain ⟨b1,b2⟩:=num_bd (by decide) hD
 have hp:(0:Int) < 65536 ^ n:=Int.pow_pos (by decide)
 rw [h1,hn] at b2
 have e1:num 65536 d / 65536 ^ n=c:=by
  rw [← h5,Int.add_mul_ediv_right _ _ (by omega),Int.ediv_eq_zero_of_lt b1 b2]; omega
 have e2:num 65536 d % 65536 ^ n=num 65536 d':=by
  rw [← h5,Int.add_mul_emod_self_right,Int.emod_eq_of_lt b1 b2]
 rw [e1]
 congr 1
 rw [← digs_mod,e2]
 exact digs_of (by decide) hD (by omega) rfl
end Go.Vm
set_option linter.unusedVariables false
namespace Go.Vm
open Go
theorem ba_loop (bs:ByteArray):∀ (n i:Nat) (r:List UInt8),bs.size - i=n→i≤bs.size→ByteArray.toList.loop bs i r=r.reverse ++ bs.data.toList.drop i:=by
 intro n
 induction n with
 | zero =>
  intro i r h hi
  rw [ByteArray.toList.loop]
  have hs:bs.size=bs.data.toList.length:=by rw [Array.length_toList]; rfl
  rw [if_neg (by omega),List.drop_of_length_le (by omega),List.append_nil]
 | succ n ih =>
  intro i r h hi
  rw [ByteArray.toList.loop]
  have hs:bs.size=bs.data.toList.length:=by rw [Array.length_toList]; rfl
  have hlt:i < bs.data.toList.length:=by omega
  rw [if_pos (by omega),ih (i + 1) _ (by omega) (by omega),List.reverse_cons,List.append_assoc]
  congr 1
  have e:bs.get! i=bs.data.toList[i]'hlt:=by
   have h2:i < bs.data.size:=by rw [← Array.length_toList]; exact hlt
   show bs.data[i]! = _
   rw [getElem!_pos bs.data i h2,Array.getElem_toList]
  rw [e,List.drop_eq_getElem_cons hlt]
  rfl
theorem ba_toList (bs:ByteArray):bs.toList=bs.data.toList:=by
 show ByteArray.toList.loop bs 0 []=_
 rw [ba_loop bs _ 0 [] rfl (Nat.zero_le _)]
 rfl
theorem strEq_refl (x:ByteArray):strEq x x=true:=by unfold strEq; exact beq_self_eq_true _
theorem strEq_iff (x y:ByteArray):strEq x y=true↔x=y:=by
 unfold strEq
 rw [ba_toList,ba_toList,beq_iff_eq]
 constructor
 ·intro h
  cases x; cases y
  congr 1
  exact Array.toList_inj.1 h
 ·rintro rfl; rfl
theorem bytesOf_inj {x y:List Int} (hx:Dig 256 x) (hy:Dig 256 y) (h:bytesOf x=bytesOf y):x=y:=by
 unfold bytesOf at h
 have h1:(x.map fun n => UInt8.ofNat n.toNat)=y.map fun n => UInt8.ofNat n.toNat:=by
  have:=congrArg (fun b:ByteArray => b.data.toList) h
  simpa using this
 have back:∀ z:List Int,Dig 256 z→(z.map fun n => UInt8.ofNat n.toNat).map (fun u => (u.toNat:Int))=z:=by
  intro z hz
  rw [List.map_map]
  conv => rhs; rw [← List.map_id z]
  apply List.map_congr_left
  intro a ha
  have:=hz a ha
  simp only [Function.comp,id]
  rw [UInt8.toNat_ofNat']
  omega
 rw [← back x hx,← back y hy,h1]
theorem strEq_bytes {x y:List Int} (hx:Dig 256 x) (hy:Dig 256 y):strEq (bytesOf x) (bytesOf y)=decide (x=y):=by
 by_cases h:x=y
 ·subst h; rw [strEq_refl,decide_eq_true rfl]
 ·rw [decide_eq_false h]
  cases hs:strEq (bytesOf x) (bytesOf y)
  ·rfl
  ·exact absurd (bytesOf_inj hx hy ((strEq_iff _ _).1 hs)) h
end Go.Vm
set_option linter.unusedVariables false
namespace Go.Vm
open Go
def val5:List Int→Int
 | [a,b,c,d,e] => a + b * 2251799813685248 + c * 5070602400912917605986812821504 + d * 11417981541647679048466287755595961091061972992 + e * 25711008708143844408671393477458601640355247900524685364822016
 | _ => 0
theorem shr51 (x:Int):iShr .u64 x 51=x / 2251799813685248:=iShr_at .u64 x 51 (by decide)
theorem and51 (x:Int):iAnd .u64 x 2251799813685247=x % 2251799813685248:=iAnd_mask x 51 (by decide)
theorem thin_val {a b c d e:Int} (ha:0≤a∧a < 9223372036854775808) (hb:0≤b∧b < 9223372036854775808) (hc:0≤c∧c < 9223372036854775808) (hd:0≤d∧d < 9223372036854775808) (he:0≤e∧e < 9223372036854775808) :
  ∃ q r0 r1 r2 r3 r4:Int,F45 [a,b,c,d,e]=[r0,r1,r2,r3,r4]∧(0≤r0∧r0 < 2251799813685248 + 19 * 4097)∧(0≤r1∧r1 < 2251799813685248)∧(0≤r2∧r2 < 2251799813685248)∧(0≤r3∧r3 < 2251799813685248)∧(0≤r4∧r4 < 2251799813685248) ∧
   val5 [a,b,c,d,e]=val5 [r0,r1,r2,r3,r4] + q * 57896044618658097711785492504343953926634992332820282019728792003956564819949:=by
 have e1:t1 a=a:=by unfold t1; rw [iAdd_u64]; omega
 have e2:t2 a b=b + a / 2251799813685248:=by unfold t2; rw [e1,iAdd_u64,shr51]; omega
 have e3:t3 a b c=c + (b + a / 2251799813685248) / 2251799813685248:=by unfold t3; rw [e2,iAdd_u64,shr51]; omega
 have e4:t4 a b c d=d + (c + (b + a / 2251799813685248) / 2251799813685248) / 2251799813685248:=by unfold t4; rw [e3,iAdd_u64,shr51]; omega
 have e5:t5 a b c d e=e + (d + (c + (b + a / 2251799813685248) / 2251799813685248) / 2251799813685248) / 2251799813685248:=by unfold t5; rw [e4,iAdd_u64,shr51]; omega
 rw [F45_eq]
 simp only [lo51,and51,shr51,e1,e2,e3,e4,e5,iAdd_u64,iMul_u64]
 generalize ha':a / 2251799813685248=a1
 generalize hb':(b + a1) / 2251799813685248=b1
 generalize hc':(c + b1) / 2251799813685248=c1
 generalize hd':(d + c1) / 2251799813685248=d1
 generalize he':(e + d1) / 2251799813685248=e6
 clear e1 e2 e3 e4 e5
 have h1:0≤a1∧a1≤4095:=by omega
 have h2:0≤b1∧b1≤4096:=by omega
 have h3:0≤c1∧c1≤4096:=by omega
 have h4:0≤d1∧d1≤4096:=by omega
 have h5:0≤e6∧e6≤4096:=by omega
 have h6:19 * e6 % 18446744073709551616=19 * e6:=Int.emod_eq_of_lt (by omega) (by omega)
 have h7:(a % 2251799813685248 + 19 * e6) % 18446744073709551616=a % 2251799813685248 + 19 * e6:=Int.emod_eq_of_lt (by omega) (by omega)
 rw [h6,h7]
 refine ⟨e6,_,_,_,_,_,rfl,?_,?_,?_,?_,?_,?_⟩
 ·omega
 ·omega
 ·omega
 ·omega
 ·omega
 ·simp only [val5]
  omega
abbrev PP:Int:=57896044618658097711785492504343953926634992332820282019728792003956564819949
def Fe (xs:List Int):Prop:=∃ a b c d e,xs=[a,b,c,d,e]∧(0≤a∧a < 4503599627370496)∧(0≤b∧b < 4503599627370496)∧(0≤c∧c < 4503599627370496)∧(0≤d∧d < 4503599627370496)∧(0≤e∧e < 4503599627370496)
theorem modP {x y q:Int} (h:x=y + q * PP):x % PP=y % PP:=by
 rw [h,Int.add_mul_emod_self_right]
theorem F16_eq (a b c d e a' b' c' d' e':Int):F16 [a,b,c,d,e] [a',b',c',d',e']=F45 [iAdd .u64 a a',iAdd .u64 b b',iAdd .u64 c c',iAdd .u64 d d',iAdd .u64 e e']:=by
 unfold F16
 congr 1
 kernel_rfl
theorem add_val {x y:List Int} (hx:Fe x) (hy:Fe y):Fe (F16 x y)∧val5 (F16 x y) % PP=(val5 x + val5 y) % PP:=by
 obtain ⟨a,b,c,d,e,rfl,ha,hb,hc,hd,he⟩:=hx
 obtain ⟨a',b',c',d',e',rfl,ha',hb',hc',hd',he'⟩:=hy
 have s:∀ u v:Int,(0≤u∧u < 4503599627370496)→(0≤v∧v < 4503599627370496)→iAdd .u64 u v=u + v:=by
  intro u v hu hv
  rw [iAdd_u64]; exact Int.emod_eq_of_lt (by omega) (by omega)
 rw [F16_eq,s a a' ha ha',s b b' hb hb',s c c' hc hc',s d d' hd hd',s e e' he he']
 obtain ⟨q,r0,r1,r2,r3,r4,h,h0,h1,h2,h3,h4,hv⟩:=thin_val (a:=a + a') (b:=b + b') (c:=c + c') (d:=d + d') (e:=e + e') (by omega) (by omega) (by omega) (by omega) (by omega)
 rw [h]
 refine ⟨⟨r0,r1,r2,r3,r4,rfl,by omega,by omega,by omega,by omega,by omega⟩,?_⟩
 have:val5 [a,b,c,d,e] + val5 [a',b',c',d',e']=val5 [r0,r1,r2,r3,r4] + q * PP:=by
  rw [← hv]; simp only [val5]; omega
 exact (modP this).symm
theorem F18_eq (a b c d e r0 r1 r2 r3 r4:Int) {y:List Int} (h:F45 y=[r0,r1,r2,r3,r4]):F18 [a,b,c,d,e] y=F45 [iAdd .u64 a (iSub .u64 9007199254740916 r0),iAdd .u64 b (iSub .u64 9007199254740988 r1),iAdd .u64 c (iSub .u64 9007199254740988 r2),iAdd .u64 d (iSub .u64 9007199254740988 r3),iAdd .u64 e (iSub .u64 9007199254740988 r4)]:=by
 unfold F18 F18l0
 rw [h]
 congr 1
 kernel_rfl
theorem sub_val {x y:List Int} (hx:Fe x) (hy:Fe y):Fe (F18 x y)∧val5 (F18 x y) % PP=(val5 x - val5 y) % PP:=by
 obtain ⟨a,b,c,d,e,rfl,ha,hb,hc,hd,he⟩:=hx
 obtain ⟨a',b',c',d',e',rfl,ha',hb',hc',hd',he'⟩:=hy
 obtain ⟨q',r0',r1',r2',r3',r4',h',h0',h1',h2',h3',h4',hv'⟩:=thin_val (a:=a') (b:=b') (c:=c') (d:=d') (e:=e') (by omega) (by omega) (by omega) (by omega) (by omega)
 have s:∀ k u v:Int,(9007199254740916≤k∧k≤9007199254740988)→(0≤u∧u < 4503599627370496)→(0≤v∧v < 4503599627370496)→iAdd .u64 u (iSub .u64 k v)=u + (k - v):=by
  intro k u v hk hu hv
  rw [iAdd_u64,iSub_u64,Int.emod_eq_of_lt (a:=k - v) (by omega) (by omega)]; exact Int.emod_eq_of_lt (by omega) (by omega)
 rw [F18_eq a b c d e r0' r1' r2' r3' r4' h',s _ a r0' (by decide) ha (by omega),s _ b r1' (by decide) hb (by omega),s _ c r2' (by decide) hc (by omega),s _ d r3' (by decide) hd (by omega),s _ e r4' (by decide) he (by omega)]
 obtain ⟨q,r0,r1,r2,r3,r4,h,h0,h1,h2,h3,h4,hv⟩:=thin_val (a:=a + (9007199254740916 - r0')) (b:=b + (9007199254740988 - r1')) (c:=c + (9007199254740988 - r2')) (d:=d + (9007199254740988 - r3')) (e:=e + (9007199254740988 - r4')) (by omega) (by omega) (by omega) (by omega) (by omega)
 rw [h]
 refine ⟨⟨r0,r1,r2,r3,r4,rfl,by omega,by omega,by omega,by omega,by omega⟩,?_⟩
 have:val5 [a,b,c,d,e] - val5 [a',b',c',d',e']=val5 [r0,r1,r2,r3,r4] + (q - q' - 4) * PP:=by
  simp only [val5,PP] at hv hv' ⊢
  omega
 exact (modP this).symm
end Go.Vm
set_option linter.unusedVariables false
namespace Go.Vm
open Go
def W (p:Int × Int) (x y:Int):Int × Int:=(add64 p.1 (mulHi x y) (add64c p.2 (mulLo x y) 0),add64 p.2 (mulLo x y) 0)
theorem W_val {p:Int × Int} {x y:Int} (h1:0≤p.1) (h2:0≤p.2) (h2':p.2 < 18446744073709551616) (hx:0≤x) (hy:0≤y) (hb:p.1 * 18446744073709551616 + p.2 + x * y < 340282366920938463463374607431768211456) :
  0≤(W p x y).1∧0≤(W p x y).2∧(W p x y).2 < 18446744073709551616∧(W p x y).1 * 18446744073709551616 + (W p x y).2=p.1 * 18446744073709551616 + p.2 + x * y:=by
 have hxy:0≤x * y:=Int.mul_nonneg hx hy
 simp only [W,add64,add64c,mulHi,mulLo]
 generalize x * y=m at *
 generalize p.1=a at *
 generalize p.2=b at *
 have e1:(a + m / 18446744073709551616 + (b + m % 18446744073709551616 + 0) / 18446744073709551616) % 18446744073709551616=a + m / 18446744073709551616 + (b + m % 18446744073709551616 + 0) / 18446744073709551616 :=
  Int.emod_eq_of_lt (by omega) (by omega)
 rw [e1]
 omega
theorem acc_eq {x y:List Int} {f0 f1 f2 f3 f4 g0 g1 g2 g3 g4:Int} (hx:F45 x=[f0,f1,f2,f3,f4]) (hy:F45 y=[g0,g1,g2,g3,g4]) :
  itr (F20l0 x y) 5 [0,0,0,0,0,0,0,0,0,0] =
   let n:=fun g => iMul .u64 g 19
   let c0:=W (W (W (W (W (0,0) f0 g0) f1 (n g4)) f2 (n g3)) f3 (n g2)) f4 (n g1)
   let c1:=W (W (W (W (W (0,0) f0 g1) f1 g0) f2 (n g4)) f3 (n g3)) f4 (n g2)
   let c2:=W (W (W (W (W (0,0) f0 g2) f1 g1) f2 g0) f3 (n g4)) f4 (n g3)
   let c3:=W (W (W (W (W (0,0) f0 g3) f1 g2) f2 g1) f3 g0) f4 (n g4)
   let c4:=W (W (W (W (W (0,0) f0 g4) f1 g3) f2 g2) f3 g1) f4 g0
   [c0.1,c0.2,c1.1,c1.2,c2.1,c2.2,c3.1,c3.2,c4.1,c4.2]:=by
 unfold F20l0 F20l1
 rw [hx,hy]
 kernel_rfl
theorem mul_le_b {x y:Int} (hx:0≤x∧x < 4503599627370496) (hy:0≤y∧y < 144115188075855872):0≤x * y∧x * y≤649037107316853453566312041152512:=by
 refine ⟨Int.mul_nonneg hx.1 hy.1,?_⟩
 have h:=Int.mul_le_mul (a:=x) (b:=y) (c:=4503599627370496) (d:=144115188075855872) (by omega) (by omega) hy.1 (by omega)
 have e:(4503599627370496:Int) * 144115188075855872=649037107316853453566312041152512:=by decide
 omega
theorem W5 {x0 x1 x2 x3 x4 y0 y1 y2 y3 y4:Int} (hx0:0≤x0∧x0 < 4503599627370496) (hx1:0≤x1∧x1 < 4503599627370496) (hx2:0≤x2∧x2 < 4503599627370496) (hx3:0≤x3∧x3 < 4503599627370496) (hx4:0≤x4∧x4 < 4503599627370496)
  (hy0:0≤y0∧y0 < 144115188075855872) (hy1:0≤y1∧y1 < 144115188075855872) (hy2:0≤y2∧y2 < 144115188075855872) (hy3:0≤y3∧y3 < 144115188075855872) (hy4:0≤y4∧y4 < 144115188075855872) :
  ∃ h l:Int,W (W (W (W (W (0,0) x0 y0) x1 y1) x2 y2) x3 y3) x4 y4=(h,l)∧(0≤h∧h < 2251799813685247)∧(0≤l∧l < 18446744073709551616)∧h * 18446744073709551616 + l=x0 * y0 + x1 * y1 + x2 * y2 + x3 * y3 + x4 * y4:=by
 have b0:=mul_le_b hx0 hy0
 have b1:=mul_le_b hx1 hy1
 have b2:=mul_le_b hx2 hy2
 have b3:=mul_le_b hx3 hy3
 have b4:=mul_le_b hx4 hy4
 obtain ⟨p1,p2,p3,p4⟩:=W_val (p:=(0,0)) (x:=x0) (y:=y0) (by decide) (by decide) (by decide) hx0.1 hy0.1 (by simp only; omega)
 obtain ⟨q1,q2,q3,q4⟩:=W_val (p:=W (0,0) x0 y0) (x:=x1) (y:=y1) p1 p2 p3 hx1.1 hy1.1 (by simp only at p4; omega)
 obtain ⟨r1,r2,r3,r4⟩:=W_val (p:=W (W (0,0) x0 y0) x1 y1) (x:=x2) (y:=y2) q1 q2 q3 hx2.1 hy2.1 (by simp only at p4; omega)
 obtain ⟨s1,s2,s3,s4⟩:=W_val (p:=W (W (W (0,0) x0 y0) x1 y1) x2 y2) (x:=x3) (y:=y3) r1 r2 r3 hx3.1 hy3.1 (by simp only at p4; omega)
 obtain ⟨t1,t2,t3,t4⟩:=W_val (p:=W (W (W (W (0,0) x0 y0) x1 y1) x2 y2) x3 y3) (x:=x4) (y:=y4) s1 s2 s3 hx4.1 hy4.1 (by simp only at p4; omega)
 have tot:(W (W (W (W (W (0,0) x0 y0) x1 y1) x2 y2) x3 y3) x4 y4).1 * 18446744073709551616 + (W (W (W (W (W (0,0) x0 y0) x1 y1) x2 y2) x3 y3) x4 y4).2=x0 * y0 + x1 * y1 + x2 * y2 + x3 * y3 + x4 * y4:=by
  simp only at p4; omega
 refine ⟨(W (W (W (W (W (0,0) x0 y0) x1 y1) x2 y2) x3 y3) x4 y4).1,(W (W (W (W (W (0,0) x0 y0) x1 y1) x2 y2) x3 y3) x4 y4).2,rfl,⟨t1,?_⟩,⟨t2,t3⟩,tot⟩
 clear p4 q4 r4 s4 t4 p1 p2 p3 q1 q2 q3 r1 r2 r3 s1 s2 s3
 have bd:x0 * y0 + x1 * y1 + x2 * y2 + x3 * y3 + x4 * y4≤3245185536584267267831560205762560:=by omega
 rw [← tot] at bd
 omega
end Go.Vm
set_option linter.unusedVariables false
namespace Go.Vm
open Go
theorem carry_val {h l r:Int} (hh:0≤h) (hl:0≤l∧l < 18446744073709551616) (hr:0≤r∧r < 18446744073709551616) (hb:h < 2251799813685247) :
  iOr .u64 (iShl .u64 (iAdd .u64 h (add64c l r 0)) 13) (iShr .u64 (add64 l r 0) 51)=(h * 18446744073709551616 + l + r) / 2251799813685248 ∧
  iAnd .u64 (add64 l r 0) 2251799813685247=(h * 18446744073709551616 + l + r) % 2251799813685248:=by
 have s51:∀ x:Int,iShr .u64 x 51=x / 2251799813685248:=fun x => iShr_at .u64 x 51 (by decide)
 have a51:∀ x:Int,iAnd .u64 x 2251799813685247=x % 2251799813685248:=fun x => iAnd_mask x 51 (by decide)
 have l13:∀ x:Int,iShl .u64 x 13=(x * 8192) % 18446744073709551616:=fun x => by rw [show (13:Int)=((13:Nat):Int) from rfl,iShl_at .u64 x 13 (by decide),wrap_u64]; rfl
 rw [s51,a51,l13,iAdd_u64]
 simp only [add64,add64c]
 have e1:(h + (l + r + 0) / 18446744073709551616) % 18446744073709551616=h + (l + r + 0) / 18446744073709551616:=Int.emod_eq_of_lt (by omega) (by omega)
 rw [e1]
 have e2:(h + (l + r + 0) / 18446744073709551616) * 8192 % 18446744073709551616=(h + (l + r + 0) / 18446744073709551616) * 2 ^ 13:=by
  rw [Int.emod_eq_of_lt (by omega) (by omega)]; rfl
 rw [e2,iOr_sum _ _ 13 (by omega) (by omega) (by show _ < (8192:Int); omega) (by show _ * (8192:Int) + _ < _; omega)]
 refine ⟨?_,by omega⟩
 show _ * (8192:Int) + _=_
 omega
end Go.Vm
set_option linter.unusedVariables false
namespace Go.Vm
open Go
def nx (h l r:Int):Int:=iOr .u64 (iShl .u64 (iAdd .u64 h (add64c l r 0)) 13) (iShr .u64 (add64 l r 0) 51)
def lo (l r:Int):Int:=iAnd .u64 (add64 l r 0) 2251799813685247
theorem F20_eq {x y:List Int} {h0 l0 h1 l1 h2 l2 h3 l3 h4 l4:Int} (h:itr (F20l0 x y) 5 [0,0,0,0,0,0,0,0,0,0]=[h0,l0,h1,l1,h2,l2,h3,l3,h4,l4]) :
  F20 x y =
   let r1:=nx h0 l0 0
   let r2:=nx h1 l1 r1
   let r3:=nx h2 l2 r2
   let r4:=nx h3 l3 r3
   let r5:=nx h4 l4 r4
   F45 [iAdd .u64 (lo l0 0) (iMul .u64 19 r5),lo l1 r1,lo l2 r2,lo l3 r3,lo l4 r4]:=by
 unfold F20 F20l2
 rw [h]
 show F45 _=F45 _
 congr 1
 kernel_rfl
end Go.Vm
set_option linter.unusedVariables false
namespace Go.Vm
open Go
theorem prod_le {x y:Int} (hx:0≤x∧x < 4503599627370496) (hy:0≤y∧y < 4503599627370496):x * y≤20282409603651670423947251286016:=by
 have h:=Int.mul_le_mul (a:=x) (b:=y) (c:=4503599627370496) (d:=4503599627370496) (by omega) (by omega) hy.1 (by omega)
 have e:(4503599627370496:Int) * 4503599627370496=20282409603651670423947251286016:=by decide
 omega
theorem nx_val {h l r s:Int} (hh:0≤h∧h < 2251799813685247) (hl:0≤l∧l < 18446744073709551616) (hr:0≤r∧r < 18446744073709551616) (hs:h * 18446744073709551616 + l=s) :
  nx h l r=(s + r) / 2251799813685248∧lo l r=(s + r) % 2251799813685248∧0≤nx h l r∧nx h l r < 18446744073709551616:=by
 obtain ⟨h1,h2⟩:=carry_val hh.1 hl hr (by omega)
 rw [hs] at h1 h2
 have h1':nx h l r=(s + r) / 2251799813685248:=h1
 refine ⟨h1',h2,?_,?_⟩ <;> rw [h1'] <;> omega
theorem mul_id (f0 f1 f2 f3 f4 g0 g1 g2 g3 g4:Int):val5 [f0,f1,f2,f3,f4] * val5 [g0,g1,g2,g3,g4] =
  val5 [f0 * g0 + f1 * (19 * g4) + f2 * (19 * g3) + f3 * (19 * g2) + f4 * (19 * g1),f0 * g1 + f1 * g0 + f2 * (19 * g4) + f3 * (19 * g3) + f4 * (19 * g2),f0 * g2 + f1 * g1 + f2 * g0 + f3 * (19 * g4) + f4 * (19 * g3),f0 * g3 + f1 * g2 + f2 * g1 + f3 * g0 + f4 * (19 * g4),f0 * g4 + f1 * g3 + f2 * g2 + f3 * g1 + f4 * g0] +
  (f1 * g4 + f2 * g3 + f3 * g2 + f4 * g1 + 2251799813685248 * (f2 * g4 + f3 * g3 + f4 * g2) + 5070602400912917605986812821504 * (f3 * g4 + f4 * g3) + 11417981541647679048466287755595961091061972992 * (f4 * g4)) * PP:=by
 simp only [val5,PP]
 grind -lia -linarith
theorem mul_val {x y:List Int} (hx:Fe x) (hy:Fe y):Fe (F20 x y)∧val5 (F20 x y) % PP=(val5 x * val5 y) % PP:=by
 obtain ⟨a,b,c,d,e,rfl,ha,hb,hc,hd,he⟩:=hx
 obtain ⟨a',b',c',d',e',rfl,ha',hb',hc',hd',he'⟩:=hy
 obtain ⟨q,f0,f1,f2,f3,f4,hf,hf0,hf1,hf2,hf3,hf4,hfv⟩:=thin_val (a:=a) (b:=b) (c:=c) (d:=d) (e:=e) (by omega) (by omega) (by omega) (by omega) (by omega)
 obtain ⟨q',g0,g1,g2,g3,g4,hg,hg0,hg1,hg2,hg3,hg4,hgv⟩:=thin_val (a:=a') (b:=b') (c:=c') (d:=d') (e:=e') (by omega) (by omega) (by omega) (by omega) (by omega)
 have n:∀ g:Int,(0≤g∧g < 4503599627370496)→iMul .u64 g 19=19 * g:=by
  intro g hg
  rw [iMul_u64,Int.emod_eq_of_lt (by omega) (by omega)]; omega
 have hacc:=acc_eq hf hg
 simp only [n g1 (by omega),n g2 (by omega),n g3 (by omega),n g4 (by omega)] at hacc
 obtain ⟨h0,l0,e0,hh0,hl0,s0⟩:=W5 (x0:=f0) (x1:=f1) (x2:=f2) (x3:=f3) (x4:=f4) (y0:=g0) (y1:=19 * g4) (y2:=19 * g3) (y3:=19 * g2) (y4:=19 * g1) (by omega) (by omega) (by omega) (by omega) (by omega) (by omega) (by omega) (by omega) (by omega) (by omega)
 obtain ⟨h1,l1,e1,hh1,hl1,s1⟩:=W5 (x0:=f0) (x1:=f1) (x2:=f2) (x3:=f3) (x4:=f4) (y0:=g1) (y1:=g0) (y2:=19 * g4) (y3:=19 * g3) (y4:=19 * g2) (by omega) (by omega) (by omega) (by omega) (by omega) (by omega) (by omega) (by omega) (by omega) (by omega)
 obtain ⟨h2,l2,e2,hh2,hl2,s2⟩:=W5 (x0:=f0) (x1:=f1) (x2:=f2) (x3:=f3) (x4:=f4) (y0:=g2) (y1:=g1) (y2:=g0) (y3:=19 * g4) (y4:=19 * g3) (by omega) (by omega) (by omega) (by omega) (by omega) (by omega) (by omega) (by omega) (by omega) (by omega)
 obtain ⟨h3,l3,e3,hh3,hl3,s3⟩:=W5 (x0:=f0) (x1:=f1) (x2:=f2) (x3:=f3) (x4:=f4) (y0:=g3) (y1:=g2) (y2:=g1) (y3:=g0) (y4:=19 * g4) (by omega) (by omega) (by omega) (by omega) (by omega) (by omega) (by omega) (by omega) (by omega) (by omega)
 obtain ⟨h4,l4,e4,hh4,hl4,s4⟩:=W5 (x0:=f0) (x1:=f1) (x2:=f2) (x3:=f3) (x4:=f4) (y0:=g4) (y1:=g3) (y2:=g2) (y3:=g1) (y4:=g0) (by omega) (by omega) (by omega) (by omega) (by omega) (by omega) (by omega) (by omega) (by omega) (by omega)
 rw [e0,e1,e2,e3,e4] at hacc
 have key:=F20_eq hacc
 have hid:=mul_id f0 f1 f2 f3 f4 g0 g1 g2 g3 g4
 have b40:=prod_le (x:=f0) (y:=g4) (by omega) (by omega)
 have b41:=prod_le (x:=f1) (y:=g3) (by omega) (by omega)
 have b42:=prod_le (x:=f2) (y:=g2) (by omega) (by omega)
 have b43:=prod_le (x:=f3) (y:=g1) (by omega) (by omega)
 have b44:=prod_le (x:=f4) (y:=g0) (by omega) (by omega)
 generalize hq2:(f1 * g4 + f2 * g3 + f3 * g2 + f4 * g1 + 2251799813685248 * (f2 * g4 + f3 * g3 + f4 * g2) + 5070602400912917605986812821504 * (f3 * g4 + f4 * g3) + 11417981541647679048466287755595961091061972992 * (f4 * g4))=q2 at hid
 rw [← s0,← s1,← s2,← s3,← s4] at hid
 have bd4:h4 * 18446744073709551616 + l4≤101412048018258352119736256430080:=by omega
 generalize ht0:h0 * 18446744073709551616 + l0=t0 at hid
 generalize ht1:h1 * 18446744073709551616 + l1=t1 at hid
 generalize ht2:h2 * 18446744073709551616 + l2=t2 at hid
 generalize ht3:h3 * 18446744073709551616 + l3=t3 at hid
 generalize ht4:h4 * 18446744073709551616 + l4=t4 at hid bd4
 obtain ⟨u0,v0,w0,w0'⟩:=nx_val (r:=0) hh0 hl0 (by omega) ht0
 obtain ⟨u1,v1,w1,w1'⟩:=nx_val (r:=nx h0 l0 0) hh1 hl1 ⟨w0,w0'⟩ ht1
 obtain ⟨u2,v2,w2,w2'⟩:=nx_val (r:=nx h1 l1 (nx h0 l0 0)) hh2 hl2 ⟨w1,w1'⟩ ht2
 obtain ⟨u3,v3,w3,w3'⟩:=nx_val (r:=nx h2 l2 (nx h1 l1 (nx h0 l0 0))) hh3 hl3 ⟨w2,w2'⟩ ht3
 obtain ⟨u4,v4,w4,w4'⟩:=nx_val (r:=nx h3 l3 (nx h2 l2 (nx h1 l1 (nx h0 l0 0)))) hh4 hl4 ⟨w3,w3'⟩ ht4
 simp only at key
 generalize nx h0 l0 0=r1 at *
 generalize nx h1 l1 r1=r2 at *
 generalize nx h2 l2 r2=r3 at *
 generalize nx h3 l3 r3=r4 at *
 generalize nx h4 l4 r4=r5 at *
 rw [v0,v1,v2,v3,v4] at key
 clear v0 v1 v2 v3 v4 hacc e0 e1 e2 e3 e4 s0 s1 s2 s3 s4 b40 b41 b42 b43 b44 hq2 hf hg n
 have r5b:r5≤45035996273713152:=by omega
 have m1:iMul .u64 19 r5=19 * r5:=by rw [iMul_u64]; exact Int.emod_eq_of_lt (by omega) (by omega)
 have m2:iAdd .u64 ((t0 + 0) % 2251799813685248) (19 * r5)=(t0 + 0) % 2251799813685248 + 19 * r5:=by rw [iAdd_u64]; exact Int.emod_eq_of_lt (by omega) (by omega)
 rw [m1,m2] at key
 obtain ⟨q3,p0,p1,p2,p3,p4,hp,hp0,hp1,hp2,hp3,hp4,hpv⟩:=thin_val (a:=(t0 + 0) % 2251799813685248 + 19 * r5) (b:=(t1 + r1) % 2251799813685248) (c:=(t2 + r2) % 2251799813685248) (d:=(t3 + r3) % 2251799813685248) (e:=(t4 + r4) % 2251799813685248) (by omega) (by omega) (by omega) (by omega) (by omega)
 rw [hp] at key
 rw [key]
 refine ⟨⟨p0,p1,p2,p3,p4,rfl,by omega,by omega,by omega,by omega,by omega⟩,?_⟩
 have e5:val5 [t0,t1,t2,t3,t4]=val5 [p0,p1,p2,p3,p4] + (q3 + r5) * PP:=by
  have:val5 [t0,t1,t2,t3,t4]=val5 [(t0 + 0) % 2251799813685248 + 19 * r5,(t1 + r1) % 2251799813685248,(t2 + r2) % 2251799813685248,(t3 + r3) % 2251799813685248,(t4 + r4) % 2251799813685248] + r5 * PP:=by
   simp only [val5,PP]
   clear hpv hid hfv hgv
   omega
  rw [this,hpv]; show val5 _ + q3 * PP + r5 * PP=_; rw [Int.add_mul,Int.add_assoc]
 have f:val5 [a,b,c,d,e] * val5 [a',b',c',d',e']=val5 [p0,p1,p2,p3,p4] + (q3 + r5 + q2 + q * val5 [g0,g1,g2,g3,g4] + q' * val5 [f0,f1,f2,f3,f4] + q * q' * PP) * PP:=by
  rw [hfv,hgv]
  have h7:val5 [f0,f1,f2,f3,f4] * val5 [g0,g1,g2,g3,g4]=val5 [p0,p1,p2,p3,p4] + (q3 + r5) * PP + q2 * PP:=by rw [hid,e5]
  generalize val5 [f0,f1,f2,f3,f4]=A at *
  generalize val5 [g0,g1,g2,g3,g4]=Bv at *
  generalize val5 [p0,p1,p2,p3,p4]=Cv at *
  show (A + q * PP) * (Bv + q' * PP)=_
  generalize PP=M at *
  grind -lia -linarith
 exact (modP f).symm
end Go.Vm
set_option linter.unusedVariables false
namespace Go.Vm
open Go
theorem val5_num (a b c d e:Int):val5 [a,b,c,d,e]=num (2 ^ 51) [a,b,c,d,e]:=by
 simp only [num,val5]
 show _=a + 2251799813685248 * (b + 2251799813685248 * (c + 2251799813685248 * (d + 2251799813685248 * (e + 2251799813685248 * 0))))
 omega
theorem F52_eq {x:List Int} {l0 l1 l2 l3 l4:Int} (h:F45 (F45 x)=[l0,l1,l2,l3,l4]) :
  F52 x =
   let q0:=iShr .u64 (iAdd .u64 l0 19) 51
   let q1:=iShr .u64 (iAdd .u64 l1 q0) 51
   let q2:=iShr .u64 (iAdd .u64 l2 q1) 51
   let q3:=iShr .u64 (iAdd .u64 l3 q2) 51
   let q4:=iShr .u64 (iAdd .u64 l4 q3) 51
   let m0:=iAdd .u64 l0 (iMul .u64 19 q4)
   let m1:=iAdd .u64 l1 (iShr .u64 m0 51)
   let m2:=iAdd .u64 l2 (iShr .u64 m1 51)
   let m3:=iAdd .u64 l3 (iShr .u64 m2 51)
   let m4:=iAdd .u64 l4 (iShr .u64 m3 51)
   [iAnd .u64 m0 2251799813685247,iAnd .u64 m1 2251799813685247,iAnd .u64 m2 2251799813685247,iAnd .u64 m3 2251799813685247,iAnd .u64 m4 2251799813685247]:=by
 unfold F52 F52l0
 rw [h]
 kernel_rfl
theorem whole_val {x:List Int} (hx:Fe x):Dig (2 ^ 51) (F52 x)∧(F52 x).length=5∧num (2 ^ 51) (F52 x)=val5 x % PP:=by
 obtain ⟨a,b,c,d,e,rfl,ha,hb,hc,hd,he⟩:=hx
 obtain ⟨q,f0,f1,f2,f3,f4,hf,hf0,hf1,hf2,hf3,hf4,hfv⟩:=thin_val (a:=a) (b:=b) (c:=c) (d:=d) (e:=e) (by omega) (by omega) (by omega) (by omega) (by omega)
 obtain ⟨q',l0,l1,l2,l3,l4,hl,hl0,hl1,hl2,hl3,hl4,hlv⟩:=thin_val (a:=f0) (b:=f1) (c:=f2) (d:=f3) (e:=f4) (by omega) (by omega) (by omega) (by omega) (by omega)
 have key:=F52_eq (x:=[a,b,c,d,e]) (by rw [hf,hl])
 have s:∀ u v:Int,(0≤u∧u < 4503599627370496)→(0≤v∧v < 4503599627370496)→iAdd .u64 u v=u + v:=by
  intro u v hu hv
  rw [iAdd_u64]; exact Int.emod_eq_of_lt (by omega) (by omega)
 simp only at key
 have hv:val5 [a,b,c,d,e] % PP=val5 [l0,l1,l2,l3,l4] % PP:=by rw [modP hfv,modP hlv]
 simp only [shr51,and51] at key
 rw [s l0 19 (by omega) (by omega)] at key
 generalize g0:(l0 + 19) / 2251799813685248=q0 at key
 have b0:0≤q0∧q0≤1:=by omega
 rw [s l1 q0 (by omega) (by omega)] at key
 generalize g1:(l1 + q0) / 2251799813685248=q1 at key
 have b1:0≤q1∧q1≤1:=by omega
 rw [s l2 q1 (by omega) (by omega)] at key
 generalize g2:(l2 + q1) / 2251799813685248=q2 at key
 have b2:0≤q2∧q2≤1:=by omega
 rw [s l3 q2 (by omega) (by omega)] at key
 generalize g3:(l3 + q2) / 2251799813685248=q3 at key
 have b3:0≤q3∧q3≤1:=by omega
 rw [s l4 q3 (by omega) (by omega)] at key
 generalize g4:(l4 + q3) / 2251799813685248=q4 at key
 have b4:0≤q4∧q4≤1:=by omega
 have e0:iMul .u64 19 q4=19 * q4:=by rw [iMul_u64]; exact Int.emod_eq_of_lt (by omega) (by omega)
 rw [e0,s l0 (19 * q4) (by omega) (by omega)] at key
 generalize j0:(l0 + 19 * q4) / 2251799813685248=c0 at key
 have d0:0≤c0∧c0≤1:=by omega
 rw [s l1 c0 (by omega) (by omega)] at key
 generalize j1:(l1 + c0) / 2251799813685248=c1 at key
 have d1:0≤c1∧c1≤1:=by omega
 rw [s l2 c1 (by omega) (by omega)] at key
 generalize j2:(l2 + c1) / 2251799813685248=c2 at key
 have d2:0≤c2∧c2≤1:=by omega
 rw [s l3 c2 (by omega) (by omega)] at key
 generalize j3:(l3 + c2) / 2251799813685248=c3 at key
 have d3:0≤c3∧c3≤1:=by omega
 rw [s l4 c3 (by omega) (by omega)] at key
 clear hfv hlv hf hl hf0 hf1 hf2 hf3 hf4 ha hb hc hd he
 rw [key,hv]
 refine ⟨?_,rfl,?_⟩
 ·intro y hy
  simp only [List.mem_cons,List.not_mem_nil,or_false] at hy
  show 0≤y∧y < 2251799813685248
  rcases hy with rfl | rfl | rfl | rfl | rfl <;> omega
 ·rw [← val5_num]
  have hlt:0≤val5 [l0,l1,l2,l3,l4] - q4 * PP∧val5 [l0,l1,l2,l3,l4] - q4 * PP < PP:=by
   simp only [val5,PP]; omega
  have:val5 [l0,l1,l2,l3,l4] % PP=val5 [l0,l1,l2,l3,l4] - q4 * PP:=by
   have:=modP (x:=val5 [l0,l1,l2,l3,l4]) (y:=val5 [l0,l1,l2,l3,l4] - q4 * PP) (q:=q4) (by omega)
   rw [this]; exact Int.emod_eq_of_lt hlt.1 hlt.2
  rw [this]
  simp only [val5,PP] at hlt ⊢
  omega
theorem itr_bits {m n:Nat} (hm:0 < m) {v:Int} {f:Nat→List Int→List Int} {K:Nat} (hK:K≤m * n)
  (hf:∀ k t,k < K→Dig (2 ^ m) t→t.length=n→0≤t.getD (k / m) 0→t.getD (k / m) 0 < 2 ^ (k % m)→f k t=t.set (k / m) (t.getD (k / m) 0 + v / 2 ^ k % 2 * 2 ^ (k % m))) :
  ∀ {z:List Int},Dig (2 ^ m) z→z.length=n→num (2 ^ m) z=0→∀ j,j≤K→Dig (2 ^ m) (itr f j z)∧(itr f j z).length=n∧num (2 ^ m) (itr f j z)=v % 2 ^ j:=by
 intro z hz hl h0 j
 induction j with
 | zero =>
  intro _
  rw [itr_zero]
  exact ⟨hz,hl,by rw [h0,Int.pow_zero,Int.emod_one]⟩
 | succ j ih =>
  intro hj
  obtain ⟨h1,h2,h3⟩:=ih (by omega)
  obtain ⟨h4,h5,h6,h7⟩:=bits_step hm (show j < m * n by omega) h1 h2 h3 rfl
  rw [itr_succ,hf j _ (by omega) h1 h2 (getD_dig (two_pos m) h1).1 h4]
  exact ⟨h5,h6,h7⟩
theorem Dig.zeros {B:Int} (hB:0 < B) (n:Nat):Dig B (List.replicate n 0):=by
 intro x hx
 rw [List.eq_of_mem_replicate hx]
 omega
theorem bytes_val {x:List Int} (hx:Fe x):F33 x=digs 256 32 (val5 x % PP):=by
 obtain ⟨w1,w2,w3⟩:=whole_val hx
 have h:=itr_bits (m:=8) (n:=32) (by decide) (v:=val5 x % PP) (f:=F33l0 x) (K:=255) (by decide) (by
  intro k t hk ht hl h1 h2
  unfold F33l0
  have hd:=getD_dig (two_pos 51) w1 (i:=k / 51)
  have hd':0≤(F52 x).getD (k / 51) 0∧(F52 x).getD (k / 51) 0 < ((18446744073709551616:Nat):Int):=⟨hd.1,Int.lt_trans hd.2 (by decide)⟩
  rw [bit_at uns64 (by decide) (show k % 51≤64 by omega) hd',digit_bit (by decide) w1,w3,bit_in uns8 (show k % 8 < 8 by omega) (bit01 _ _) h1 h2]) (z:=List.replicate 32 0) (Dig.zeros (by decide) 32) rfl (num_zeros _ 32) 255 (by decide)
 obtain ⟨h1,h2,h3⟩:=h
 have e:F33 x=itr (F33l0 x) 255 (List.replicate 32 0):=rfl
 rw [e]
 refine digs_of (by decide) h1 h2 ?_
 show num (2 ^ 8) _=_
 rw [h3]
 have p1:=Int.emod_nonneg (val5 x) (b:=PP) (by decide)
 have p2:=Int.emod_lt_of_pos (val5 x) (b:=PP) (by decide)
 refine Int.emod_eq_of_lt p1 (Int.lt_trans p2 (by decide))
end Go.Vm
set_option linter.unusedVariables false
namespace Go.Vm
open Go
def E (x:List Int) (v:Int):Prop:=Fe x∧val5 x % PP=v % PP
theorem E.to {x:List Int} {v w:Int} (h:E x v) (e:v % PP=w % PP):E x w:=⟨h.1,h.2.trans e⟩
theorem E_add {x y:List Int} {v w:Int} (hx:E x v) (hy:E y w):E (F16 x y) (v + w) :=
 ⟨(add_val hx.1 hy.1).1,by rw [(add_val hx.1 hy.1).2,Int.add_emod,hx.2,hy.2,← Int.add_emod]⟩
theorem E_sub {x y:List Int} {v w:Int} (hx:E x v) (hy:E y w):E (F18 x y) (v - w) :=
 ⟨(sub_val hx.1 hy.1).1,by rw [(sub_val hx.1 hy.1).2,Int.sub_emod,hx.2,hy.2,← Int.sub_emod]⟩
theorem E_mul {x y:List Int} {v w:Int} (hx:E x v) (hy:E y w):E (F20 x y) (v * w) :=
 ⟨(mul_val hx.1 hy.1).1,by rw [(mul_val hx.1 hy.1).2,Int.mul_emod,hx.2,hy.2,← Int.mul_emod]⟩
theorem E_small {n:Int} (h:0≤n∧n < 4294967296):E (F30 n) n:=by
 have e:F30 n=[n,0,0,0,0]:=by
  unfold F30
  rw [wrap_u64,Int.emod_eq_of_lt (by omega) (by omega)]
 rw [e]
 refine ⟨⟨n,0,0,0,0,rfl,by omega,by omega,by omega,by omega,by omega⟩,?_⟩
 simp only [val5]
 congr 1
 omega
theorem read_val {b:List Int} (hb:Dig 256 b) (hl:b.length=32):E (F23 b) (num 256 b % 57896044618658097711785492504343953926634992332820282019728792003956564819968):=by
 have h:=itr_bits (m:=51) (n:=5) (by decide) (v:=num 256 b) (f:=F23l0 b) (K:=255) (by decide) (by
  intro k t hk ht hl h1 h2
  unfold F23l0
  have hd:=getD_dig (B:=256) (by decide) hb (i:=k / 8)
  rw [bit_at uns8 (by decide) (show k % 8≤8 by omega) hd,show b.getD (k / 8) 0 / 2 ^ (k % 8) % 2=num 256 b / 2 ^ k % 2 from digit_bit (m:=8) (by decide) hb k,
   bit_in uns64 (show k % 51 < 64 by omega) (bit01 _ _) h1 h2]) (z:=List.replicate 5 0) (Dig.zeros (by decide) 5) rfl (num_zeros _ 5) 255 (by decide)
 obtain ⟨h1,h2,h3⟩:=h
 have e:F23 b=itr (F23l0 b) 255 (List.replicate 5 0):=by
  unfold F23
  have:(((b.length:Int):Int) != 32)=false:=by rw [hl]; rfl
  rw [this,sel_false]
  rfl
 rw [← e] at h1 h2 h3
 obtain ⟨a,b',c,d,e',he⟩:=five h2
 rw [he] at h1 h3 ⊢
 have hm:∀ x,x ∈ [a,b',c,d,e']→0≤x∧x < 4503599627370496:=fun x hx => ⟨(h1 x hx).1,Int.lt_trans (h1 x hx).2 (by decide)⟩
 refine ⟨⟨a,b',c,d,e',rfl,hm a (by simp),hm b' (by simp),hm c (by simp),hm d (by simp),hm e' (by simp)⟩,?_⟩
 rw [val5_num,h3]
 rfl
theorem read_ok {b:List Int}:F23_1 b=decide (b.length=32):=by
 unfold F23_1
 by_cases h:b.length=32
 ·have:(((b.length:Int):Int) != 32)=false:=by rw [h]; rfl
  rw [this,sel_false,decide_eq_true h]
 ·have:(((b.length:Int):Int) != 32)=true:=by
   have:(b.length:Int) ≠ 32:=by omega
   simpa using this
  rw [this,sel_true,decide_eq_false h]
theorem E.bytes {x:List Int} {v:Int} (h:E x v):F33 x=digs 256 32 (v % PP):=by rw [bytes_val h.1,h.2]
theorem PP_lt (v:Int):0≤v % PP∧v % PP < PP:=⟨Int.emod_nonneg _ (by decide),Int.emod_lt_of_pos _ (by decide)⟩
theorem digs_inj {v w:Int} (h:digs 256 32 (v % PP)=digs 256 32 (w % PP)):v % PP=w % PP:=by
 have h1:=congrArg (num 256) h
 rw [num_digs (by decide),num_digs (by decide)] at h1
 have a:=PP_lt v
 have b:=PP_lt w
 rw [Int.emod_eq_of_lt a.1 (Int.lt_trans a.2 (by decide)),Int.emod_eq_of_lt b.1 (Int.lt_trans b.2 (by decide))] at h1
 exact h1
theorem E.same {x y:List Int} {v w:Int} (hx:E x v) (hy:E y w):F29 x y=decide (v % PP=w % PP):=by
 unfold F29
 rw [hx.bytes,hy.bytes]
 by_cases h:v % PP=w % PP
 ·rw [h,decide_eq_true rfl]; exact beq_self_eq_true _
 ·rw [decide_eq_false h]
  exact beq_eq_false_iff_ne.2 fun e => h (digs_inj e)
theorem E.odd {x:List Int} {v:Int} (hx:E x v):F32 x=decide (v % PP % 2=1):=by
 obtain ⟨w1,w2,w3⟩:=whole_val hx.1
 have hd:=getD_dig (two_pos 51) w1 (i:=0)
 have hb:=digit_bit (m:=51) (by decide) w1 0
 have e0:∀ z:Int,z / 2 ^ 0 % 2=z % 2:=fun z => by rw [Int.pow_zero,Int.ediv_one]
 have hb':(F52 x).getD 0 0 % 2=v % PP % 2:=by rw [← hx.2,← w3,← e0 ((F52 x).getD 0 0),← e0 (num _ _)]; exact hb
 unfold F32
 rw [iAnd_one uns64 (by decide) ⟨hd.1,Int.lt_trans hd.2 (by decide)⟩,hb']
 rfl
theorem num_nat {b:List Int} (hb:Dig 256 b):∃ N:Nat,num 256 b=(N:Int)∧N < 2 ^ (8 * b.length):=by
 obtain ⟨h1,h2⟩:=num_bd (B:=256) (by decide) hb
 obtain ⟨N,hN⟩:=Int.eq_ofNat_of_zero_le h1
 refine ⟨N,hN,?_⟩
 have e:(256:Int) ^ b.length=((2 ^ (8 * b.length):Nat):Int):=by
  rw [Nat.pow_mul,Int.natCast_pow]; rfl
 rw [hN,e] at h2
 exact Int.ofNat_lt.1 h2
theorem byte_bit {b:List Int} (hb:Dig 256 b) {N:Nat} (hN:num 256 b=(N:Int)) (j:Nat):iAnd .u8 (iShr .u8 (b.getD (j / 8) 0) ((j % 8:Nat):Int)) 1=((N / 2 ^ j % 2:Nat):Int):=by
 have hd:=getD_dig (B:=256) (by decide) hb (i:=j / 8)
 rw [bit_at uns8 (by decide) (show j % 8≤8 by omega) hd,show b.getD (j / 8) 0 / 2 ^ (j % 8) % 2=num 256 b / 2 ^ j % 2 from digit_bit (m:=8) (by decide) hb j,hN]
 rw [Int.natCast_emod,Int.natCast_ediv,Int.natCast_pow]
 rfl
theorem pow_val {x b:List Int} {v:Int} (hx:E x v) (hb:Dig 256 b) {N:Nat} (hN:num 256 b=(N:Int)):E (F26 x b) (v ^ N):=by
 have hlt:N < 2 ^ (8 * b.length):=by
  obtain ⟨M,h1,h2⟩:=num_nat hb
  rw [hN] at h1
  have:N=M:=by omega
  rw [this]; exact h2
 have key:∀ k,k≤8 * b.length→E (itr (F26l0 x b) k (F30 1)) (v ^ (N / 2 ^ (8 * b.length - k))):=by
  intro k
  induction k with
  | zero =>
   intro _
   rw [itr_zero,Nat.sub_zero,Nat.div_eq_of_lt hlt,Int.pow_zero]
   exact E_small (by decide)
  | succ k ih =>
   intro hk
   have h:=ih (by omega)
   rw [itr_succ]
   generalize itr (F26l0 x b) k (F30 1)=z at *
   unfold F26l0
   have ej:8 * b.length - 1 - k=8 * b.length - (k + 1):=by omega
   rw [byte_bit hb hN,ej]
   have e1:N / 2 ^ (8 * b.length - k)=N / 2 ^ (8 * b.length - (k + 1)) / 2:=by
    rw [Nat.div_div_eq_div_mul,← Nat.pow_succ]
    congr 2
    omega
   rw [e1] at h
   generalize N / 2 ^ (8 * b.length - (k + 1))=n at *
   have hsq:=E_mul h h
   rw [← Int.pow_add] at hsq
   rcases Nat.mod_two_eq_zero_or_one n with h0 | h0
   ·rw [h0]
    have:(((0:Nat):Int) == 1)=false:=rfl
    rw [this,sel_false]
    have:n / 2 + n / 2=n:=by omega
    rw [this] at hsq
    exact hsq
   ·rw [h0]
    have:(((1:Nat):Int) == 1)=true:=rfl
    rw [this,sel_true]
    have hm:=E_mul hsq hx
    rw [← Int.pow_succ] at hm
    have:(n / 2 + n / 2).succ=n:=by omega
    rw [this] at hm
    exact hm
 have:=key (8 * b.length) (Nat.le_refl _)
 rw [Nat.sub_self,Nat.pow_zero,Nat.div_one] at this
 exact this
end Go.Vm
set_option linter.unusedVariables false
namespace Go.Vm
open Go
theorem F46l1_eq:F46l1=ch:=rfl
theorem F46l2_eq:F46l2=ch:=rfl
theorem F21l2_eq:F21l2=ch:=rfl
def gg (v:Int):Int:=v % 57896044618658097711785492504343953926634992332820282019728792003956564819968 + 19 * (v / 57896044618658097711785492504343953926634992332820282019728792003956564819968)
theorem gg_mod (v:Int):gg v % PP=v % PP:=by
 have:gg v=v + (-(v / 57896044618658097711785492504343953926634992332820282019728792003956564819968)) * PP:=by
  unfold gg PP; omega
 exact modP this
theorem digs_getD {B:Int} (hB:0 < B):∀ (n i:Nat) (v:Int),i < n→(digs B n v).getD i 0=v / B ^ i % B
 | 0,i,v,h => absurd h (by omega)
 | n + 1,0,v,_ => by rw [digs_succ,List.getD_cons_zero,Int.pow_zero,Int.ediv_one]
 | n + 1,i + 1,v,h => by
  rw [digs_succ,List.getD_cons_succ,digs_getD hB n i _ (by omega),Int.ediv_ediv_of_nonneg (by omega),Int.pow_succ,Int.mul_comm (B ^ i)]
theorem digs_set_top {w u:Int} {x:Int} (hx:0≤x∧x < 65536) (h:u=w % 115792089237316195423570985008687907853269984665640564039457584007913129639936 + (x - w / 1766847064778384329583297500742918515827483896875618958121606201292619776 % 65536) * 1766847064778384329583297500742918515827483896875618958121606201292619776):(digs 65536 16 w).set 15 x=digs 65536 16 u:=by
 have hD:=digs_dig (B:=65536) (by decide) 16 w
 have hl:=digs_length 65536 16 w
 refine digs_of (by decide) (dig_set hD hx) (by rw [List.length_set,hl]) ?_
 rw [num_set (by omega),num_digs (by decide),digs_getD (by decide) _ _ _ (by decide),h]
 rfl
theorem round_val {d:List Int} (hl:d.length=16) (hd:Bd 1099511627776 d) (k:Nat) :
  ∃ e,F46l0 k d=(digs 65536 16 (num 65536 d % 57896044618658097711785492504343953926634992332820282019728792003956564819968)).set 0 e ∧
   e=num 65536 d % 65536 + 19 * (num 65536 d / 57896044618658097711785492504343953926634992332820282019728792003956564819968) ∧
   Bd 1099511627776 (F46l0 k d)∧(F46l0 k d).length=16∧num 65536 (F46l0 k d)=gg (num 65536 d):=by
 have hb:Bd 2305843009213693952 d:=fun x hx => by have:=hd x hx; omega
 have hch:=chain_val hl hb
 have ha:=num_abs (by decide) hd
 rw [hl] at ha
 have hp:(65536:Int) ^ 16=115792089237316195423570985008687907853269984665640564039457584007913129639936:=by rfl
 rw [hp] at ha hch
 have hq:(65536:Int) ^ 15=1766847064778384329583297500742918515827483896875618958121606201292619776:=by rfl
 unfold F46l0
 rw [F46l1_eq,hch]
 generalize num 65536 d=v at *
 simp only
 rw [digs_getD (by decide) 16 15 v (by decide),hq]
 have e15:iShr .i64 (v / 1766847064778384329583297500742918515827483896875618958121606201292619776 % 65536) 15=v / 1766847064778384329583297500742918515827483896875618958121606201292619776 % 65536 / 32768:=iShr_at .i64 _ 15 (by decide)
 rw [e15]
 have e16:iShl .i64 (v / 1766847064778384329583297500742918515827483896875618958121606201292619776 % 65536 / 32768) 15=v / 1766847064778384329583297500742918515827483896875618958121606201292619776 % 65536 / 32768 * 32768 :=
  shl_i64 (n:=15) (by decide) (by show _≤_ * (32768:Int); omega) (by show _ * (32768:Int) < _; omega)
 rw [e16,iSub_i64 (by omega) (by omega)]
 rw [digs_set_top (u:=v % 57896044618658097711785492504343953926634992332820282019728792003956564819968) (by omega) (by omega)]
 rw [iMul_i64 (by omega) (by omega),iMul_i64 (by omega) (by omega),digs_getD (by decide) 16 0 _ (by decide),Int.pow_zero,Int.ediv_one]
 rw [iAdd_i64 (x:=19 * _) (by omega) (by omega),iAdd_i64 (by omega) (by omega)]
 refine ⟨_,rfl,by omega,?_,by rw [List.length_set,digs_length],?_⟩
 ·exact ((digs_dig (B:=65536) (by decide) 16 _).bd (by decide)).set (by omega)
 ·rw [num_set (by rw [digs_length]; decide),num_digs (by decide),hp,digs_getD (by decide) 16 0 _ (by decide),Int.pow_zero,Int.ediv_one]
  unfold gg
  omega
theorem low_val {d:List Int} (hl:d.length=16) (hd:Bd 1099511627776 d):F46 d=digs 65536 16 (num 65536 d % PP):=by
 have ha:=num_abs (by decide) hd
 rw [hl] at ha
 have hp:(65536:Int) ^ 16=115792089237316195423570985008687907853269984665640564039457584007913129639936:=by rfl
 rw [hp] at ha
 obtain ⟨e1,_,_,b1,l1,n1⟩:=round_val hl hd 0
 obtain ⟨e2,_,_,b2,l2,n2⟩:=round_val l1 b1 1
 obtain ⟨e3,_,_,b3,l3,n3⟩:=round_val l2 b2 2
 obtain ⟨e4,h4,he4,b4,l4,n4⟩:=round_val l3 b3 3
 have hi:itr F46l0 4 d=F46l0 3 (F46l0 2 (F46l0 1 (F46l0 0 d))):=by rw [itr_succ,itr_succ,itr_succ,itr_succ,itr_zero]
 have hm:num 65536 (F46l0 2 (F46l0 1 (F46l0 0 d))) % PP=num 65536 d % PP:=by rw [n3,gg_mod,n2,gg_mod,n1,gg_mod]
 have hu:0≤num 65536 (F46l0 2 (F46l0 1 (F46l0 0 d)))∧num 65536 (F46l0 2 (F46l0 1 (F46l0 0 d))) < 57896044618658097711785492504343953926634992332820282019728792003956564819968:=by
  rw [n3,n2,n1]
  have a1:-4294967296≤gg (num 65536 d)∧gg (num 65536 d) < 57896044618658097711785492504343953926634992332820282019728792003956564819968 + 4294967296:=by
   clear n1 n2 n3 n4 he4 h4 hm
   unfold gg; omega
  generalize gg (num 65536 d)=y at *
  have a2:0≤gg y∧gg y < 57896044618658097711785492504343953926634992332820282019728792003956564819968:=by clear n1 n2 n3 n4 he4 h4 hm ha; unfold gg; omega
  generalize gg y=x at *
  unfold gg; omega
 generalize num 65536 (F46l0 2 (F46l0 1 (F46l0 0 d)))=u at *
 rw [← hm]
 have h4':F46l0 3 (F46l0 2 (F46l0 1 (F46l0 0 d)))=digs 65536 16 u:=by
  rw [h4,he4,Int.emod_eq_of_lt hu.1 hu.2]
  refine digs_of (by decide) (dig_set (digs_dig (by decide) _ _) (by omega)) (by rw [List.length_set,digs_length]) ?_
  rw [num_set (by rw [digs_length]; decide),num_digs (by decide),hp,digs_getD (by decide) 16 0 _ (by decide),Int.pow_zero,Int.ediv_one]
  omega
 unfold F46
 rw [hi,h4',F46l2_eq]
 rw [digs_getD (by decide) 16 0 _ (by decide),Int.pow_zero,Int.ediv_one,iAdd_i64 (by omega) (by omega)]
 have hc:=chain_val (d:=(digs 65536 16 u).set 0 (u % 65536 + 19)) (n:=16) (by rw [List.length_set,digs_length]) (((digs_dig (B:=65536) (by decide) 16 _).bd (by decide)).set (by omega))
 have hv:num 65536 ((digs 65536 16 u).set 0 (u % 65536 + 19))=u + 19:=by
  rw [num_set (by rw [digs_length]; decide),num_digs (by decide),hp,digs_getD (by decide) 16 0 _ (by decide),Int.pow_zero,Int.ediv_one]
  omega
 rw [hv] at hc
 rw [hc]
 simp only
 have hq:(65536:Int) ^ 15=1766847064778384329583297500742918515827483896875618958121606201292619776:=by rfl
 rw [digs_getD (by decide) 16 15 (u + 19) (by decide),hq]
 by_cases hge:PP≤u
 ·have t:decide ((u + 19) / 1766847064778384329583297500742918515827483896875618958121606201292619776 % 65536 ≥ 32768)=true:=by
   apply decide_eq_true
   show 32768≤_
   unfold PP at hge
   omega
  have hu2:u % PP=u - PP:=by
   have:=modP (x:=u) (y:=u - PP) (q:=1) (by omega)
   rw [this]; refine Int.emod_eq_of_lt (by omega) ?_
   unfold PP; omega
  unfold PP at hge
  rw [t,sel_true,hu2,iSub_i64 (by omega) (by omega)]
  refine digs_set_top (by omega) ?_
  unfold PP
  omega
 ·have t:decide ((u + 19) / 1766847064778384329583297500742918515827483896875618958121606201292619776 % 65536 ≥ 32768)=false:=by
   apply decide_eq_false
   show ¬ 32768≤_
   unfold PP at hge
   omega
  rw [t,sel_false,Int.emod_eq_of_lt hu.1 (by omega)]
end Go.Vm
set_option linter.unusedVariables false
namespace Go.Vm
open Go
def R (d:List Int) (v:Int):Prop:=d=digs 65536 16 (v % PP)
theorem R.to {x:List Int} {v w:Int} (h:R x v) (e:v % PP=w % PP):R x w:=by unfold R at *; rw [h,e]
def su (B:Int) (h:Nat→Int):Nat→Int
 | 0 => 0
 | j + 1 => su B h j + h j * B ^ j
theorem su_succ (B:Int) (h:Nat→Int) (j:Nat):su B h (j + 1)=su B h j + h j * B ^ j:=rfl
theorem su_getD (B:Int) (xs:List Int):∀ j,su B (fun i => xs.getD i 0) j=num B (xs.take j)
 | 0 => by simp [su,num]
 | j + 1 => by rw [su_succ,su_getD B xs j,num_take]
theorem su_all {B:Int} {xs:List Int} {n:Nat} (h:xs.length=n):su B (fun i => xs.getD i 0) n=num B xs:=by
 rw [su_getD,List.take_of_length_le (by omega)]
theorem su_add (B:Int) (f g:Nat→Int):∀ j,su B (fun i => f i + g i) j=su B f j + su B g j
 | 0 => rfl
 | j + 1 => by rw [su_succ,su_succ,su_succ,su_add B f g j,Int.add_mul]; omega
theorem su_mul (B a:Int) (f:Nat→Int):∀ j,su B (fun i => a * f i) j=a * su B f j
 | 0 => by simp [su]
 | j + 1 => by rw [su_succ,su_succ,su_mul B a f j,Int.mul_add,Int.mul_assoc]
theorem su_congr {B:Int} {f g:Nat→Int}:∀ {j:Nat},(∀ i,i < j→f i=g i)→su B f j=su B g j
 | 0,_ => rfl
 | j + 1,h => by rw [su_succ,su_succ,su_congr (fun i hi => h i (by omega)),h j (by omega)]
theorem itr_pt {B:Int} {f:Nat→List Int→List Int} {g:Nat→Int} {p:List Int} {n o:Nat} (hn:n + o≤p.length)
  (hf:∀ k z,k < n→z.length=p.length→z.getD (k + o) 0=p.getD (k + o) 0→f k z=z.set (k + o) (g k)) :
  ∀ j,j≤n→(itr f j p).length=p.length∧(∀ i,i < j→(itr f j p).getD (i + o) 0=g i)∧(∀ i,i < o ∨ j + o≤i→(itr f j p).getD i 0=p.getD i 0) ∧
   num B (itr f j p)=num B p + su B (fun i => g i - p.getD (i + o) 0) j * B ^ o:=by
 intro j
 induction j with
 | zero => intro _; rw [itr_zero]; exact ⟨rfl,fun i hi => absurd hi (by omega),fun _ _ => rfl,by simp [su]⟩
 | succ j ih =>
  intro hj
  obtain ⟨h1,h2,h3,h4⟩:=ih (by omega)
  rw [itr_succ]
  generalize itr f j p=z at *
  have hz:=h3 (j + o) (Or.inr (Nat.le_refl _))
  rw [hf j z (by omega) h1 hz]
  refine ⟨by rw [List.length_set,h1],?_,?_,?_⟩
  ·intro i hi
   by_cases hij:i=j
   ·subst hij; rw [getD_set_eq (by omega)]
   ·rw [getD_set_ne (by omega)]; exact h2 i (by omega)
  ·intro i hi
   rw [getD_set_ne (by omega)]; exact h3 i (by omega)
  ·rw [num_set (by omega),h4,hz,su_succ,Int.add_mul,Int.mul_assoc _ (B ^ j),← Int.pow_add]
   omega
theorem bd_of_getD {K:Int} {xs:List Int} (h:∀ i,i < xs.length→-K≤xs.getD i 0∧xs.getD i 0≤K):Bd K xs:=by
 intro x hx
 obtain ⟨j,hj,rfl⟩:=List.mem_iff_getElem.1 hx
 have:=h j hj
 rw [List.getD_eq_getElem?_getD,List.getElem?_eq_getElem hj] at this
 exact this
theorem itr_all {f:Nat→List Int→List Int} {g:Nat→Int} {p:List Int} {n:Nat} (hn:p.length=n) (K:Int)
  (hf:∀ k z,k < n→z.getD k 0=p.getD k 0→f k z=z.set k (g k)) (hg:∀ k,k < n→-K≤g k∧g k≤K) :
  (itr f n p).length=n∧Bd K (itr f n p)∧num 65536 (itr f n p)=su 65536 g n:=by
 obtain ⟨h1,h2,h3,h4⟩:=itr_pt (B:=65536) (f:=f) (g:=g) (p:=p) (n:=n) (o:=0) (by omega) (fun k z hk _ h => hf k z hk h) n (Nat.le_refl _)
 refine ⟨by omega,?_,?_⟩
 ·apply bd_of_getD
  intro i hi
  have:=h2 i (by omega)
  rw [Nat.add_zero] at this
  rw [this]
  exact hg i (by omega)
 ·rw [h4,Int.pow_zero,Int.mul_one,← su_all hn]
  have:∀ j,su 65536 (fun i => p.getD i 0) j + su 65536 (fun i => g i - p.getD (i + 0) 0) j=su 65536 g j:=by
   intro j
   rw [← su_add]
   exact su_congr fun i _ => by rw [Nat.add_zero]; omega
  exact this n
theorem R.len {d:List Int} {v:Int} (h:R d v):d.length=16:=by rw [h,digs_length]
theorem R.dig {d:List Int} {v:Int} (h:R d v):Dig 65536 d:=by rw [h]; exact digs_dig (by decide) _ _
theorem R.num {d:List Int} {v:Int} (h:R d v):num 65536 d=v % PP:=by
 rw [h,num_digs (by decide)]
 have a:=PP_lt v
 exact Int.emod_eq_of_lt a.1 (Int.lt_trans a.2 (by decide))
theorem R.at {d:List Int} {v:Int} (h:R d v) (i:Nat):0≤d.getD i 0∧d.getD i 0 < 65536:=getD_dig (by decide) h.dig
theorem R_low {d:List Int} {v:Int} (hl:d.length=16) (hd:Bd 1099511627776 d) (hv:Go.Vm.num 65536 d % PP=v % PP):R (F46 d) v:=by
 unfold R; rw [low_val hl hd,hv]
theorem R_add {x y:List Int} {v w:Int} (hx:R x v) (hy:R y w):R (F17 x y) (v + w):=by
 obtain ⟨h1,h2,h3⟩:=itr_all (f:=F17l0 y) (g:=fun k => x.getD k 0 + y.getD k 0) hx.len 1099511627776 (by
  intro k z hk hz
  unfold F17l0
  have a:=hx.at k
  have b:=hy.at k
  rw [hz,iAdd_i64 (by omega) (by omega)]) (by
  intro k hk
  have a:=hx.at k
  have b:=hy.at k
  omega)
 refine R_low h1 h2 ?_
 rw [h3,su_add,su_all hx.len,su_all hy.len,hx.num,hy.num,← Int.add_emod]
theorem R_small {n:Int} (h:-1099511627776≤n∧n≤1099511627776):R (F31 n) n:=by
 unfold F31
 refine R_low rfl ?_ ?_
 ·intro x hx
  simp only [List.mem_cons,List.not_mem_nil,or_false] at hx
  omega
 ·simp [num]
theorem R_sub {x y:List Int} {v w:Int} (hx:R x v) (hy:R y w):R (F19 x y) (v - w):=by
 obtain ⟨h1,h2,h3⟩:=itr_all (f:=F19l0 y) (g:=fun k => x.getD k 0 + (-1) * y.getD k 0) hx.len 65536 (by
  intro k z hk hz
  unfold F19l0
  have a:=hx.at k
  have b:=hy.at k
  rw [hz,iSub_i64 (by omega) (by omega)]; congr 1; omega) (by
  intro k hk
  have a:=hx.at k
  have b:=hy.at k
  omega)
 rw [su_add,su_mul,su_all hx.len,su_all hy.len,hx.num,hy.num] at h3
 unfold F19
 generalize itr (F19l0 y) 16 x=z at *
 have z0:=h2.at (by decide) 0
 rw [iAdd_i64 (y:=131034) (by omega) (by omega)]
 obtain ⟨k1,k2,k3,k4⟩:=itr_pt (B:=65536) (f:=F19l1) (g:=fun k => z.getD (k + 1) 0 + 131070) (p:=z.set 0 (z.getD 0 0 + 131034)) (n:=14) (o:=1) (by rw [List.length_set]; omega) (by
  intro k z' hk hl hz
  unfold F19l1
  rw [getD_set_ne (by omega)] at hz
  have b:=h2.at (by decide) (k + 1)
  rw [hz,iAdd_i64 (by omega) (by omega)]) 14 (Nat.le_refl _)
 generalize itr F19l1 14 (z.set 0 (z.getD 0 0 + 131034))=u at *
 have u15:=k3 15 (by omega)
 rw [getD_set_ne (by omega)] at u15
 have z15:=h2.at (by decide) 15
 rw [u15,iAdd_i64 (by omega) (by omega)]
 have ul:u.length=16:=by rw [k1,List.length_set,h1]
 refine R_low (by rw [List.length_set,ul]) ?_ ?_
 ·refine Bd.set (bd_of_getD ?_) (by omega)
  intro i hi
  by_cases i0:i=0
  ·have:=k3 0 (by omega)
   rw [getD_set_eq (by omega)] at this
   rw [i0,this]; omega
  ·by_cases i15:i=15
   ·rw [i15,u15]; omega
   ·have:=k2 (i - 1) (by omega)
    rw [show i - 1 + 1=i by omega] at this
    have b:=h2.at (by decide) i
    rw [this]; omega
 ·rw [num_set (by omega),u15,k4,num_set (by omega),h3]
  have e:su 65536 (fun i => z.getD (i + 1) 0 + 131070 - (z.set 0 (z.getD 0 0 + 131034)).getD (i + 1) 0) 14=su 65536 (fun _ => 131070) 14:=su_congr fun i _ => by rw [getD_set_ne (by omega)]; omega
  have e2:su 65536 (fun _ => 131070) 14=53919893334301279589334030174039261347274288845081144962207220498430:=by kernel_rfl
  rw [e,e2]
  have q0:(65536:Int) ^ 0=1:=rfl
  have q1:(65536:Int) ^ 1=65536:=rfl
  have q15:(65536:Int) ^ 15=1766847064778384329583297500742918515827483896875618958121606201292619776:=rfl
  rw [q0,q1,q15]
  have:v % PP + -1 * (w % PP) + (z.getD 0 0 + 131034 - z.getD 0 0) * 1 + 53919893334301279589334030174039261347274288845081144962207220498430 * 65536 + (z.getD 15 0 + 65534 - z.getD 15 0) * 1766847064778384329583297500742918515827483896875618958121606201292619776=(v % PP - w % PP) + 2 * PP:=by
   unfold PP; omega
  rw [this,modP rfl,← Int.sub_emod]
theorem getD_zeros (n i:Nat):(List.replicate n (0:Int)).getD i 0=0:=by
 rw [List.getD_eq_getElem?_getD,List.getElem?_replicate]
 split <;> rfl
theorem digs_append {B:Int} (hB:0 < B):∀ (n m:Nat) (v:Int),digs B (n + m) v=digs B n v ++ digs B m (v / B ^ n)
 | 0,m,v => by rw [Nat.zero_add,Int.pow_zero,Int.ediv_one]; rfl
 | n + 1,m,v => by
  rw [Nat.add_right_comm,digs_succ,digs_append hB n m,digs_succ,List.cons_append,Int.ediv_ediv_of_nonneg (by omega),Int.pow_succ,Int.mul_comm B]
theorem prod16 {a b:Int} (ha:0≤a∧a < 65536) (hb:0≤b∧b < 65536):0≤a * b∧a * b≤4294967296:=by
 refine ⟨Int.mul_nonneg ha.1 hb.1,?_⟩
 have h:=Int.mul_le_mul (a:=a) (b:=b) (c:=65536) (d:=65536) (by omega) (by omega) hb.1 (by omega)
 omega
theorem R_mul {x y:List Int} {v w:Int} (hx:R x v) (hy:R y w):R (F21 x y) (v * w):=by
 have inner:∀ k0:Nat,k0 < 16→∀ z:List Int,z.length=32→Bd ((k0:Int) * 4294967296) z →
   (F21l0 x y k0 z).length=32∧Bd (((k0 + 1:Nat):Int) * 4294967296) (F21l0 x y k0 z)∧num 65536 (F21l0 x y k0 z)=num 65536 z + x.getD k0 0 * num 65536 y * 65536 ^ k0:=by
  intro k0 h0 z hz hb
  have hx0:=hx.at k0
  obtain ⟨h1,h2,h3,h4⟩:=itr_pt (B:=65536) (f:=F21l1 x y k0) (g:=fun k => z.getD (k + k0) 0 + x.getD k0 0 * y.getD k 0) (p:=z) (n:=16) (o:=k0) (by omega) (by
   intro k z' hk hl he
   unfold F21l1
   have a:=hb.at (by omega) (k + k0)
   have b:=prod16 hx0 (hy.at k)
   rw [Nat.add_comm k0 k,he,iMul_i64 (by omega) (by omega),iAdd_i64 (by omega) (by omega)]) 16 (Nat.le_refl _)
  unfold F21l0
  refine ⟨by rw [h1,hz],?_,?_⟩
  ·apply bd_of_getD
   intro i hi
   have a:=hb.at (by omega) i
   have e:((k0 + 1:Nat):Int) * 4294967296=(k0:Int) * 4294967296 + 4294967296:=by omega
   by_cases hik:i < k0 ∨ 16 + k0≤i
   ·rw [h3 i hik,e]; omega
   ·have:=h2 (i - k0) (by omega)
    rw [show i - k0 + k0=i by omega] at this
    have b:=prod16 hx0 (hy.at (i - k0))
    rw [this,e]; omega
  ·rw [h4]
   congr 2
   have e:su 65536 (fun i => z.getD (i + k0) 0 + x.getD k0 0 * y.getD i 0 - z.getD (i + k0) 0) 16=su 65536 (fun i => x.getD k0 0 * y.getD i 0) 16:=su_congr fun i _ => by omega
   rw [e,su_mul,su_all hy.len]
 have outer:∀ j,j≤16→(itr (F21l0 x y) j (List.replicate 32 0)).length=32∧Bd ((j:Int) * 4294967296) (itr (F21l0 x y) j (List.replicate 32 0))∧num 65536 (itr (F21l0 x y) j (List.replicate 32 0))=num 65536 (x.take j) * num 65536 y:=by
  intro j
  induction j with
  | zero =>
   intro _
   rw [itr_zero]
   refine ⟨rfl,?_,by rw [num_zeros]; simp [num]⟩
   intro a ha
   rw [List.eq_of_mem_replicate ha]; omega
  | succ j ih =>
   intro hj
   obtain ⟨h1,h2,h3⟩:=ih (by omega)
   obtain ⟨i1,i2,i3⟩:=inner j (by omega) _ h1 h2
   rw [itr_succ]
   refine ⟨i1,i2,?_⟩
   rw [i3,h3,num_take,Int.add_mul]
   congr 1
   rw [Int.mul_assoc,Int.mul_assoc,Int.mul_comm (65536 ^ j)]
 obtain ⟨o1,o2,o3⟩:=outer 16 (Nat.le_refl _)
 rw [List.take_of_length_le (by rw [hx.len]; decide),hx.num,hy.num] at o3
 have hch:=chain_val (n:=32) o1 (fun a ha => by have:=o2 a ha; omega)
 rw [o3] at hch
 have hV:0≤v % PP * (w % PP):=Int.mul_nonneg (PP_lt v).1 (PP_lt w).1
 have hV2:v % PP * (w % PP)≤3351951982485649274893506249551461531869841455148098344430890360930441007516186694504959566828678008207342894297409383004791299986236948390458062788362601:=by
  have h:=Int.mul_le_mul (a:=v % PP) (b:=w % PP) (c:=PP) (d:=PP) (Int.le_of_lt (PP_lt v).2) (Int.le_of_lt (PP_lt w).2) (PP_lt w).1 (by decide)
  have e:PP * PP=3351951982485649274893506249551461531869841455148098344430890360930441007516186694504959566828678008207342894297409383004791299986236948390458062788362601:=by kernel_rfl
  rw [e] at h
  exact h
 refine R.to (v:=v % PP * (w % PP)) ?_ (Int.mul_emod v w PP).symm
 generalize v % PP * (w % PP)=V at *
 have hsp:=digs_append (B:=65536) (by decide) 16 16 V
 have e0:F21 x y=F46 (itr (F21l3 x y) 16 (List.replicate 16 0)):=rfl
 have ez:([0,0,0,0,0,0,0,0,0,0,0,0,0,0,0,0,0,0,0,0,0,0,0,0,0,0,0,0,0,0,0,0]:List Int)=List.replicate 32 0:=rfl
 have g1:∀ k,k < 16→(digs 65536 32 V).getD k 0=(digs 65536 16 V).getD k 0:=by
  intro k hk
  rw [show 32=16 + 16 from rfl,hsp,List.getD_eq_getElem?_getD,List.getElem?_append_left (by rw [digs_length]; exact hk),← List.getD_eq_getElem?_getD]
 have g2:∀ k,k < 16→(digs 65536 32 V).getD (k + 16) 0=(digs 65536 16 (V / 65536 ^ 16)).getD k 0:=by
  intro k hk
  rw [show 32=16 + 16 from rfl,hsp,List.getD_eq_getElem?_getD,List.getElem?_append_right (by rw [digs_length]; omega),digs_length,Nat.add_sub_cancel,← List.getD_eq_getElem?_getD]
 obtain ⟨h1,h2,h3⟩:=itr_all (f:=F21l3 x y) (p:=List.replicate 16 0) (n:=16) (g:=fun k => (digs 65536 16 V).getD k 0 + 38 * (digs 65536 16 (V / 65536 ^ 16)).getD k 0) rfl 1099511627776 (by
  intro k z hk hz
  unfold F21l3
  rw [ez,F21l2_eq,hch]
  simp only
  rw [g1 k hk,g2 k hk]
  have a:=getD_dig (i:=k) (by decide) (digs_dig (B:=65536) (by decide) 16 V)
  have b:=getD_dig (i:=k) (by decide) (digs_dig (B:=65536) (by decide) 16 (V / 65536 ^ 16))
  rw [iMul_i64 (by omega) (by omega),iAdd_i64 (by omega) (by omega)]) (by
  intro k hk
  have a:=getD_dig (i:=k) (by decide) (digs_dig (B:=65536) (by decide) 16 V)
  have b:=getD_dig (i:=k) (by decide) (digs_dig (B:=65536) (by decide) 16 (V / 65536 ^ 16))
  omega)
 rw [e0]
 refine R_low h1 h2 ?_
 have hp:(65536:Int) ^ 16=115792089237316195423570985008687907853269984665640564039457584007913129639936:=by rfl
 rw [h3,su_add,su_mul,su_all (digs_length _ _ _),su_all (digs_length _ _ _),num_digs (by decide),num_digs (by decide),hp]
 have:V=V % 115792089237316195423570985008687907853269984665640564039457584007913129639936 + 38 * (V / 115792089237316195423570985008687907853269984665640564039457584007913129639936 % 115792089237316195423570985008687907853269984665640564039457584007913129639936) + (2 * (V / 115792089237316195423570985008687907853269984665640564039457584007913129639936)) * PP:=by
  unfold PP; omega
 exact (modP this).symm
end Go.Vm
set_option linter.unusedVariables false
namespace Go.Vm
open Go
theorem su_pairs (b:List Int):∀ j,su 65536 (fun k => b.getD (2 * k) 0 + 256 * b.getD (2 * k + 1) 0) j=num 256 (b.take (2 * j))
 | 0 => by simp [su,num]
 | j + 1 => by
  rw [su_succ,su_pairs b j,show 2 * (j + 1)=2 * j + 1 + 1 by omega,num_take,num_take,Int.pow_succ]
  have e:(65536:Int) ^ j=256 ^ (2 * j):=by rw [Int.pow_mul]; rfl
  rw [e,Int.add_mul]
  generalize (256:Int) ^ (2 * j)=p
  rw [Int.mul_comm p 256,← Int.mul_assoc,Int.mul_comm 256 (b.getD _ _)]
  omega
theorem wrap8_64 {x:Int} (h:0≤x∧x < 256):IntKind.wrap .i64 x=x:=wrap_small (by omega) (by omega)
theorem R_read {b:List Int} (hb:Dig 256 b) (hl:b.length=32):R (F24 b) (num 256 b % 57896044618658097711785492504343953926634992332820282019728792003956564819968):=by
 obtain ⟨h1,h2,h3⟩:=itr_all (f:=F24l0 b) (p:=List.replicate 16 0) (n:=16) (g:=fun k => b.getD (2 * k) 0 + 256 * b.getD (2 * k + 1) 0) rfl 65536 (by
  intro k z hk hz
  unfold F24l0
  have a:=getD_dig (i:=2 * k) (by decide) hb
  have c:=getD_dig (i:=2 * k + 1) (by decide) hb
  rw [wrap8_64 a,wrap8_64 c,iMul_i64 (by omega) (by omega),iAdd_i64 (by omega) (by omega)]) (by
  intro k hk
  have a:=getD_dig (i:=2 * k) (by decide) hb
  have c:=getD_dig (i:=2 * k + 1) (by decide) hb
  omega)
 have h15:0≤(itr (F24l0 b) 16 (List.replicate 16 0)).getD 15 0:=by
  obtain ⟨k1,k2,k3,k4⟩:=itr_pt (B:=65536) (f:=F24l0 b) (p:=List.replicate 16 0) (n:=16) (o:=0) (g:=fun k => b.getD (2 * k) 0 + 256 * b.getD (2 * k + 1) 0) (by decide) (by
   intro k z hk _ hz
   unfold F24l0
   have a:=getD_dig (i:=2 * k) (by decide) hb
   have c:=getD_dig (i:=2 * k + 1) (by decide) hb
   rw [wrap8_64 a,wrap8_64 c,iMul_i64 (by omega) (by omega),iAdd_i64 (by omega) (by omega)]; rfl) 16 (Nat.le_refl _)
  have:=k2 15 (by decide)
  have a:=getD_dig (i:=30) (by decide) hb
  have c:=getD_dig (i:=31) (by decide) hb
  have e:(itr (F24l0 b) 16 (List.replicate 16 0)).getD 15 0=b.getD 30 0 + 256 * b.getD 31 0:=this
  omega
 rw [su_pairs,List.take_of_length_le (by omega)] at h3
 have e0:F24 b=F46 ((itr (F24l0 b) 16 (List.replicate 16 0)).set 15 (iRem ((itr (F24l0 b) 16 (List.replicate 16 0)).getD 15 0) 32768)):=rfl
 have hD:Dig 65536 (itr (F24l0 b) 16 (List.replicate 16 0)):=by
  obtain ⟨k1,k2,k3,k4⟩:=itr_pt (B:=65536) (f:=F24l0 b) (p:=List.replicate 16 0) (n:=16) (o:=0) (g:=fun k => b.getD (2 * k) 0 + 256 * b.getD (2 * k + 1) 0) (by decide) (by
   intro k z hk _ hz
   unfold F24l0
   have a:=getD_dig (i:=2 * k) (by decide) hb
   have c:=getD_dig (i:=2 * k + 1) (by decide) hb
   rw [wrap8_64 a,wrap8_64 c,iMul_i64 (by omega) (by omega),iAdd_i64 (by omega) (by omega)]; rfl) 16 (Nat.le_refl _)
  apply dig_of_getD
  intro i hi
  have e:=k2 i (by omega)
  have a:=getD_dig (i:=2 * i) (by decide) hb
  have c:=getD_dig (i:=2 * i + 1) (by decide) hb
  rw [Nat.add_zero] at e
  rw [e]; omega
 rw [e0]
 have g15:=getD_num (B:=65536) (by decide) (i:=15) hD
 rw [h3] at g15
 generalize itr (F24l0 b) 16 (List.replicate 16 0)=d at *
 have b15:=getD_dig (i:=15) (by decide) hD
 have erem:iRem (d.getD 15 0) 32768=d.getD 15 0 % 32768:=by
  unfold iRem; exact Int.tmod_eq_emod_of_nonneg h15
 rw [erem]
 refine R_low (by rw [List.length_set,h1]) ((hD.bd (by decide)).set (by omega)) ?_
 rw [num_set (by omega),h3,g15]
 have hq:(65536:Int) ^ 15=1766847064778384329583297500742918515827483896875618958121606201292619776:=rfl
 rw [hq]
 congr 1
 obtain ⟨n1,n2⟩:=num_bd (B:=256) (by decide) hb
 rw [hl] at n2
 have hp:(256:Int) ^ 32=115792089237316195423570985008687907853269984665640564039457584007913129639936:=rfl
 rw [hp] at n2
 omega
theorem R.beq {m n:List Int} {v w:Int} (hm:R m v) (hn:R n w):(m == n)=decide (v % PP=w % PP):=by
 by_cases h:v % PP=w % PP
 ·rw [decide_eq_true h]
  unfold R at hm hn
  rw [hm,hn,h]; exact beq_self_eq_true _
 ·rw [decide_eq_false h]
  refine beq_eq_false_iff_ne.2 fun e => h ?_
  rw [← hm.num,← hn.num,e]
theorem byte_bit2 {b:List Int} (hb:Dig 256 b) {N:Nat} (hN:num 256 b=(N:Int)) (k j:Nat) (hj:j < 8):iRem (iShr .u8 (b.getD k 0) (j:Int)) 2=((N / 2 ^ (8 * k + j) % 2:Nat):Int):=by
 have h:=byte_bit hb hN (8 * k + j)
 rw [show (8 * k + j) / 8=k by omega,show (8 * k + j) % 8=j by omega] at h
 have hd:=getD_dig (B:=256) (by decide) hb (i:=k)
 rw [bit_at uns8 (by decide) (show j≤8 by omega) hd] at h
 rw [← h,iShr_at .u8 _ j (show j≤8 by omega)]
 unfold iRem
 exact Int.tmod_eq_emod_of_nonneg (Int.ediv_nonneg hd.1 (Int.le_of_lt (two_pos j)))
theorem mod_bit_nat (x k:Nat):x % 2 ^ (k + 1)=x % 2 ^ k + x / 2 ^ k % 2 * 2 ^ k:=by
 have h:=mod_bit (x:Int) k
 have e:∀ n:Nat,(2:Int) ^ n=((2 ^ n:Nat):Int):=fun n => by rw [Int.natCast_pow]; rfl
 rw [e,e] at h
 exact_mod_cast h
theorem R_pow {x b:List Int} {v:Int} (hx:R x v) (hb:Dig 256 b) {N:Nat} (hN:num 256 b=(N:Int)):R (F27 x b) (v ^ N):=by
 have inner:∀ k,∀ z:List Int × List Int,R z.1 (v ^ (N % 2 ^ (8 * k)))→R z.2 (v ^ (2 ^ (8 * k)))→∀ j,j≤8 →
   R (itr (F27l1 b k) j z).1 (v ^ (N % 2 ^ (8 * k + j)))∧R (itr (F27l1 b k) j z).2 (v ^ (2 ^ (8 * k + j))):=by
  intro k z h1 h2 j
  induction j with
  | zero => intro _; rw [itr_zero]; exact ⟨h1,h2⟩
  | succ j ih =>
   intro hj
   obtain ⟨g1,g2⟩:=ih (by omega)
   rw [itr_succ]
   generalize itr (F27l1 b k) j z=u at *
   unfold F27l1
   simp only
   rw [byte_bit2 hb hN k j (by omega)]
   refine ⟨?_,?_⟩
   ·rw [show 8 * k + (j + 1)=(8 * k + j) + 1 by omega,mod_bit_nat]
    generalize 8 * k + j=i at *
    rcases Nat.mod_two_eq_zero_or_one (N / 2 ^ i) with h0 | h0
    ·rw [h0,Nat.zero_mul,Nat.add_zero]
     have:(((0:Nat):Int) == 1)=false:=rfl
     rw [this,sel_false]
     exact g1
    ·rw [h0,Nat.one_mul]
     have:(((1:Nat):Int) == 1)=true:=rfl
     rw [this,sel_true,Int.pow_add]
     exact R_mul g1 g2
   ·rw [show 8 * k + (j + 1)=(8 * k + j) + 1 by omega,Nat.pow_succ,Nat.mul_two,Int.pow_add]
    exact R_mul g2 g2
 have outer:∀ k,k≤b.length→R (itr (F27l0 b) k (F31 1,x)).1 (v ^ (N % 2 ^ (8 * k)))∧R (itr (F27l0 b) k (F31 1,x)).2 (v ^ (2 ^ (8 * k))):=by
  intro k
  induction k with
  | zero =>
   intro _
   rw [itr_zero,Nat.mul_zero,Nat.pow_zero,Nat.mod_one,Int.pow_zero,Int.pow_one]
   exact ⟨R_small (by decide),hx⟩
  | succ k ih =>
   intro hk
   obtain ⟨g1,g2⟩:=ih (by omega)
   rw [itr_succ]
   obtain ⟨i1,i2⟩:=inner k _ g1 g2 8 (Nat.le_refl _)
   rw [show 8 * (k + 1)=8 * k + 8 by omega]
   exact ⟨i1,i2⟩
 have hlt:N < 2 ^ (8 * b.length):=by
  obtain ⟨M,h1,h2⟩:=num_nat hb
  rw [hN] at h1
  have:N=M:=by omega
  rw [this]; exact h2
 have:=(outer b.length (Nat.le_refl _)).1
 rw [Nat.mod_eq_of_lt hlt] at this
 unfold F27
 rw [Nat.sub_zero]
 exact this
theorem ediv_pow2 (v:Int) (j:Nat):v / 65536 ^ j=v / 256 ^ (2 * j):=by
 rw [Int.pow_mul]; rfl
theorem R_bytes {d:List Int} {v:Int} (hd:R d v):∀ j,j≤16→itr (F49l0 d) j (0,[])=(2 * j,digs 256 (2 * j) (v % PP)):=by
 intro j
 induction j with
 | zero => intro _; rw [itr_zero]; rfl
 | succ j ih =>
  intro hj
  rw [itr_succ,ih (by omega)]
  unfold F49l0
  simp only
  have h1:d.getD j 0=v % PP / 65536 ^ j % 65536:=by rw [hd,digs_getD (by decide) 16 j _ (by omega)]
  have h2:=hd.at j
  have e1:IntKind.wrap .u8 (iRem (d.getD j 0) 256)=d.getD j 0 % 256:=by
   unfold iRem
   rw [Int.tmod_eq_emod_of_nonneg h2.1,wrap_u8]; omega
  have e2:IntKind.wrap .u8 (iQuo .i64 (d.getD j 0) 256)=d.getD j 0 / 256:=by
   unfold iQuo
   rw [Int.tdiv_eq_ediv_of_nonneg h2.1,wrap_small (by omega) (by omega),wrap_u8]; omega
  rw [e1,e2,show 2 * (j + 1)=2 * j + 2 by omega,digs_append (by decide) (2 * j) 2]
  refine Prod.ext rfl ?_
  simp only
  congr 1
  rw [h1,ediv_pow2]
  generalize v % PP / 256 ^ (2 * j)=u
  show _=[u % 256,u / 256 % 256]
  congr 1
  ·omega
  ·congr 1; omega
theorem F49_val {d:List Int} {v:Int} (hd:R d v):F49 d=digs 256 32 (v % PP):=by
 unfold F49; rw [R_bytes hd 16 (Nat.le_refl _)]
theorem near_255_21:F50 255 21=[235,255,255,255,255,255,255,255,255,255,255,255,255,255,255,255,255,255,255,255,255,255,255,255,255,255,255,255,255,255,255,127]:=by kernel_rfl
theorem near_252_2:F50 252 2=[254,255,255,255,255,255,255,255,255,255,255,255,255,255,255,255,255,255,255,255,255,255,255,255,255,255,255,255,255,255,255,15]:=by kernel_rfl
theorem near_253_5:F50 253 5=[251,255,255,255,255,255,255,255,255,255,255,255,255,255,255,255,255,255,255,255,255,255,255,255,255,255,255,255,255,255,255,31]:=by kernel_rfl
theorem all_255_21:F51 255 21=[235,255,255,255,255,255,255,255,255,255,255,255,255,255,255,255,255,255,255,255,255,255,255,255,255,255,255,255,255,255,255,127]:=by kernel_rfl
theorem all_252_2:F51 252 2=[254,255,255,255,255,255,255,255,255,255,255,255,255,255,255,255,255,255,255,255,255,255,255,255,255,255,255,255,255,255,255,15]:=by kernel_rfl
theorem all_253_5:F51 253 5=[251,255,255,255,255,255,255,255,255,255,255,255,255,255,255,255,255,255,255,255,255,255,255,255,255,255,255,255,255,255,255,31]:=by kernel_rfl
def eInv:Nat:=57896044618658097711785492504343953926634992332820282019728792003956564819947
def eRoot:Nat:=7237005577332262213973186563042994240829374041602535252466099000494570602494
def eTwo:Nat:=14474011154664524427946373126085988481658748083205070504932198000989141204987
theorem part_eq (xs:List Int) (h:xs.length=32):part1 xs 32 0 32=xs:=part1_all h
theorem E_inv {x:List Int} {v:Int} (hx:E x v):E (F25 x) (v ^ eInv):=by
 unfold F25
 rw [near_255_21,part_eq _ rfl]
 exact pow_val hx (by unfold Dig; decide) (N:=eInv) (by kernel_rfl)
theorem R_inv {x:List Int} {v:Int} (hx:R x v):R (F28 x) (v ^ eInv):=by
 unfold F28
 rw [all_255_21,part_eq _ rfl]
 exact R_pow hx (by unfold Dig; decide) (N:=eInv) (by kernel_rfl)
end Go.Vm
set_option linter.unusedVariables false
namespace Go.Vm
open Go
theorem pow_emod (a:Int) (n:Nat):a ^ n % PP=(a % PP) ^ n % PP:=by
 induction n with
 | zero => rw [Int.pow_zero,Int.pow_zero]
 | succ n ih => rw [Int.pow_succ,Int.pow_succ,Int.mul_emod,ih,← Int.mul_emod,Int.mul_emod,Int.mul_emod ((a % PP) ^ n),Int.emod_emod_of_dvd _ ⟨1,(Int.mul_one _).symm⟩]
theorem pp_nat:PP=((Tabn.P:Nat):Int):=by kernel_rfl
theorem rem_nat (a:Int):∃ n:Nat,a % PP=(n:Int)∧n < Tabn.P:=by
 obtain ⟨n,hn⟩:=Int.eq_ofNat_of_zero_le (PP_lt a).1
 refine ⟨n,hn,?_⟩
 have:=(PP_lt a).2
 rw [hn,pp_nat] at this
 exact Int.ofNat_lt.1 this
theorem pow_nat (n k:Nat):(n:Int) ^ k % PP=((n ^ k % Tabn.P:Nat):Int):=by
 rw [pp_nat,Int.natCast_emod,Int.natCast_pow]
theorem eInv_succ:eInv + 1=Tabn.P - 1:=by kernel_rfl
theorem inv_one {a:Int} (h:a % PP ≠ 0):(a ^ eInv * a) % PP=1:=by
 rw [← Int.pow_succ]
 show a ^ (eInv + 1) % PP=1
 rw [eInv_succ,pow_emod]
 obtain ⟨n,hn,hlt⟩:=rem_nat a
 rw [hn] at h ⊢
 rw [pow_nat,Tabn.fermat_one Tabn.prime_P]
 ·rfl
 ·intro hd
  have:=Nat.le_of_dvd (by omega) hd
  omega
end Go.Vm
set_option linter.unusedVariables false
namespace Go.Vm
open Go
theorem pp_dvd {a b:Int} (h:a % PP=b % PP):PP ∣ a - b:=Int.dvd_of_emod_eq_zero (by rw [Int.sub_emod,h,Int.sub_self]; rfl)
theorem pp_of {a b:Int} (h:PP ∣ a - b):a % PP=b % PP:=by
 obtain ⟨q,hq⟩:=h
 exact modP (q:=q) (by rw [Int.mul_comm q]; omega)
theorem pp_prime {a b:Int} (h:PP ∣ a * b):PP ∣ a ∨ PP ∣ b:=by
 have e:PP.natAbs=Tabn.P:=by kernel_rfl
 have h1:Tabn.P ∣ a.natAbs * b.natAbs:=by
  rw [← Int.natAbs_mul,← e]; exact Int.natAbs_dvd_natAbs.2 h
 rcases Tabn.prime_P.dvd_mul h1 with h2 | h2
 ·exact .inl (Int.natAbs_dvd_natAbs.1 (by rw [e]; exact h2))
 ·exact .inr (Int.natAbs_dvd_natAbs.1 (by rw [e]; exact h2))
theorem mul_mod {a b c d:Int} (h:a % PP=b % PP) (h':c % PP=d % PP):a * c % PP=b * d % PP:=by
 rw [Int.mul_emod,h,h',← Int.mul_emod]
theorem sq_same {a b:Int} (h:a * a % PP=b * b % PP):a % PP=b % PP ∨ a % PP=(0 - b) % PP:=by
 have h1:=pp_dvd h
 have e:a * a - b * b=(a - b) * (a + b):=by
  rw [Int.sub_mul,Int.mul_add,Int.mul_add,Int.mul_comm b a]; omega
 rw [e] at h1
 rcases pp_prime h1 with h2 | h2
 ·exact .inl (pp_of h2)
 ·refine .inr (pp_of ?_)
  have e2:a - (0 - b)=a + b:=by omega
  rw [e2]; exact h2
def eHalf:Nat:=28948022309329048855892746252171976963317496166410141009864396001978282409974
theorem half_one {a:Int} (h:a % PP ≠ 0):a ^ eHalf % PP=1 ∨ a ^ eHalf % PP=(-1) % PP:=by
 have h1:a ^ eHalf * a ^ eHalf % PP=1 * 1 % PP:=by
  rw [← Int.pow_add]
  have e:eHalf + eHalf=eInv + 1:=by kernel_rfl
  rw [e,Int.pow_succ,inv_one h]
  rfl
 rcases sq_same h1 with h2 | h2
 ·exact .inl h2
 ·exact .inr h2
theorem two_half:(2:Int) ^ eHalf % PP=(-1) % PP:=by
 have h:(2 ^ eHalf % Tabn.P:Nat)=Tabn.P - 1:=by
  rw [← Tabn.pmod_eq Tabn.P 256 2 eHalf (of_decide_eq_true (by kernel_rfl))]
  kernel_rfl
 have e:((Tabn.P - 1:Nat):Int)=(-1) % PP:=by kernel_rfl
 have h2:=pow_nat 2 eHalf
 rw [h,e] at h2
 exact h2
def rootV (v:Int):Int:=if v ^ eRoot * v ^ eRoot % PP=v % PP then v ^ eRoot else v ^ eRoot * 2 ^ eTwo
theorem pow_mod {a b:Int} (h:a % PP=b % PP) (n:Nat):a ^ n % PP=b ^ n % PP:=by rw [pow_emod,h,← pow_emod]
theorem root_sq (v:Int):rootV (v * v) * rootV (v * v) % PP=v * v % PP:=by
 have e1:(v * v) ^ eRoot * (v * v) ^ eRoot=v * v * v ^ eHalf:=by
  have e:v * v * v ^ eHalf=v ^ (eHalf + 1 + 1):=by rw [Int.pow_succ,Int.pow_succ,Int.mul_comm (v * v),Int.mul_assoc]
  have e':eRoot + eRoot + (eRoot + eRoot)=eHalf + 1 + 1:=by kernel_rfl
  rw [e,Int.mul_pow,← Int.pow_add,← Int.pow_add,e']
 unfold rootV
 by_cases h:(v * v) ^ eRoot * (v * v) ^ eRoot % PP=v * v % PP
 ·rw [if_pos h]; exact h
 ·rw [if_neg h]
  have hv:v % PP ≠ 0:=by
   intro h0
   apply h
   rw [e1]
   have h1:v * v % PP=0 % PP:=mul_mod (b:=0) (d:=0) (by rw [h0]; rfl) (by rw [h0]; rfl)
   rw [mul_mod h1 (rfl:v ^ eHalf % PP=v ^ eHalf % PP),h1,Int.zero_mul]
  have hh:v ^ eHalf % PP=(-1) % PP:=by
   rcases half_one hv with h1 | h1
   ·exfalso
    apply h
    rw [e1,mul_mod (rfl:v * v % PP=v * v % PP) (show v ^ eHalf % PP=1 % PP from h1),Int.mul_one]
   ·exact h1
  have e2:(v * v) ^ eRoot * 2 ^ eTwo * ((v * v) ^ eRoot * 2 ^ eTwo)=(v * v * v ^ eHalf) * 2 ^ eHalf:=by
   have e3:((2:Int) ^ eTwo) * 2 ^ eTwo=2 ^ eHalf:=by
    have e':eTwo + eTwo=eHalf:=by kernel_rfl
    rw [← Int.pow_add,e']
   rw [← e1,← e3]
   generalize (v * v) ^ eRoot=A
   generalize (2:Int) ^ eTwo=B
   grind -lia -linarith
  rw [e2,mul_mod (mul_mod (rfl:v * v % PP=v * v % PP) hh) two_half]
  congr 1
  generalize v * v=w
  omega
theorem E_rootpow {x:List Int} {v:Int} (hx:E x v):E (F26 x (part1 (F50 252 2) 32 0 32)) (v ^ eRoot):=by
 rw [near_252_2,part_eq _ rfl]
 exact pow_val hx (by unfold Dig; decide) (N:=eRoot) (by kernel_rfl)
theorem E_two:E (F26 (F30 2) (part1 (F50 253 5) 32 0 32)) (2 ^ eTwo):=by
 rw [near_253_5,part_eq _ rfl]
 exact pow_val (E_small (by decide)) (by unfold Dig; decide) (N:=eTwo) (by kernel_rfl)
theorem R_rootpow {x:List Int} {v:Int} (hx:R x v):R (F27 x (part1 (F51 252 2) 32 0 32)) (v ^ eRoot):=by
 rw [all_252_2,part_eq _ rfl]
 exact R_pow hx (by unfold Dig; decide) (N:=eRoot) (by kernel_rfl)
theorem R_two:R (F27 (F31 2) (part1 (F51 253 5) 32 0 32)) (2 ^ eTwo):=by
 rw [all_253_5,part_eq _ rfl]
 exact R_pow (R_small (by decide)) (by unfold Dig; decide) (N:=eTwo) (by kernel_rfl)
theorem E_root {x:List Int} {v:Int} (hx:E x v):E (F34 x) (rootV v)∧F34_1 x=decide (rootV v * rootV v % PP=v % PP):=by
 have h1:E (F34 x) (rootV v):=by
  unfold F34 rootV
  have ht:=E_rootpow hx
  have h2:=E_two
  generalize F26 x (part1 (F50 252 2) 32 0 32)=t at *
  generalize F26 (F30 2) (part1 (F50 253 5) 32 0 32)=u at *
  rw [(E_mul ht ht).same hx]
  by_cases h:v ^ eRoot * v ^ eRoot % PP=v % PP
  ·rw [if_pos h,decide_eq_true h,Bool.not_true,sel_false]; exact ht
  ·rw [if_neg h,decide_eq_false h,Bool.not_false,sel_true]; exact E_mul ht h2
 exact ⟨h1,(E_mul h1 h1).same hx⟩
theorem R_root {x:List Int} {v:Int} (hx:R x v):F35_1 x=decide (rootV v * rootV v % PP=v % PP):=by
 have h1:R (F35 x) (rootV v):=by
  unfold F35 rootV
  have ht:=R_rootpow hx
  have h2:=R_two
  generalize F27 x (part1 (F51 252 2) 32 0 32)=t at *
  generalize F27 (F31 2) (part1 (F51 253 5) 32 0 32)=u at *
  rw [(R_mul ht ht).beq hx]
  by_cases h:v ^ eRoot * v ^ eRoot % PP=v % PP
  ·rw [if_pos h,decide_eq_true h,Bool.not_true,sel_false]; exact ht
  ·rw [if_neg h,decide_eq_false h,Bool.not_false,sel_true]; exact R_mul ht h2
 exact (R_mul h1 h1).beq hx
end Go.Vm
set_option linter.unusedVariables false
namespace Go.Vm
open Go
theorem pow_emod' (a:Int) (n:Nat):a ^ n % PP=(a % PP) ^ n % PP:=by
 induction n with
 | zero => rw [Int.pow_zero,Int.pow_zero]
 | succ n ih => rw [Int.pow_succ,Int.pow_succ,Int.mul_emod,ih,← Int.mul_emod,Int.mul_emod,Int.mul_emod ((a % PP) ^ n),Int.emod_emod_of_dvd _ ⟨1,(Int.mul_one _).symm⟩]
theorem pp_nat':PP=((Tabn.P:Nat):Int):=by kernel_rfl
def toF (v:Int):Tabn.F:=⟨(v % PP).toNat,by have h:=PP_lt v; have:=pp_nat'; omega⟩
theorem toF_val (v:Int):(((toF v).val:Nat):Int)=v % PP:=Int.toNat_of_nonneg (PP_lt v).1
theorem toF_ext {f g:Tabn.F} (h:((f.val:Nat):Int)=((g.val:Nat):Int)):f=g:=Fin.ext (Int.ofNat.inj h)
theorem toF_eq {v w:Int} (h:v % PP=w % PP):toF v=toF w:=toF_ext (by rw [toF_val,toF_val,h])
theorem of_toF {v w:Int} (h:toF v=toF w):v % PP=w % PP:=by rw [← toF_val,← toF_val,h]
theorem toF_add (v w:Int):toF (v + w)=toF v + toF w:=by
 apply toF_ext
 rw [toF_val,Fin.val_add,Int.natCast_emod,Int.natCast_add,toF_val,toF_val,← pp_nat',← Int.add_emod]
theorem toF_mul (v w:Int):toF (v * w)=toF v * toF w:=by
 apply toF_ext
 rw [toF_val,Fin.val_mul,Int.natCast_emod,Int.natCast_mul,toF_val,toF_val,← pp_nat',← Int.mul_emod]
theorem fin_sub_add (a b:Tabn.F):a - b + b=a:=by grind -lia -linarith
theorem fin_add_right {a b c:Tabn.F} (h:a + c=b + c):a=b:=by grind -lia -linarith
theorem toF_sub (v w:Int):toF (v - w)=toF v - toF w:=by
 apply fin_add_right (c:=toF w)
 rw [← toF_add,Int.sub_add_cancel,fin_sub_add]
theorem toF_pow_val (v:Int) (e:Nat):((((toF v).val ^ e % Tabn.P:Nat)):Int)=v ^ e % PP:=by
 rw [Int.natCast_emod,Int.natCast_pow,toF_val,← pp_nat',← pow_emod']
theorem eI_eq:Tabn.eI=eInv:=Tabn.eI_lit
theorem toF_inv (v:Int):toF (v ^ eInv)=Tabn.finv (toF v):=by
 apply toF_ext
 rw [toF_val,Tabn.finv_val,eI_eq,toF_pow_val]
def EF (x:List Int) (f:Tabn.F):Prop:=∃ v,E x v∧toF v=f
def RF (x:List Int) (f:Tabn.F):Prop:=∃ v,R x v∧toF v=f
theorem EF.to {x:List Int} {f g:Tabn.F} (h:EF x f) (e:f=g):EF x g:=e ▸ h
theorem RF.to {x:List Int} {f g:Tabn.F} (h:RF x f) (e:f=g):RF x g:=e ▸ h
theorem EF_add {x y:List Int} {f g:Tabn.F}:EF x f→EF y g→EF (F16 x y) (f + g):=fun ⟨v,h,e⟩ ⟨w,h',e'⟩ => ⟨v + w,E_add h h',by rw [toF_add,e,e']⟩
theorem EF_sub {x y:List Int} {f g:Tabn.F}:EF x f→EF y g→EF (F18 x y) (f - g):=fun ⟨v,h,e⟩ ⟨w,h',e'⟩ => ⟨v - w,E_sub h h',by rw [toF_sub,e,e']⟩
theorem EF_mul {x y:List Int} {f g:Tabn.F}:EF x f→EF y g→EF (F20 x y) (f * g):=fun ⟨v,h,e⟩ ⟨w,h',e'⟩ => ⟨v * w,E_mul h h',by rw [toF_mul,e,e']⟩
theorem EF_inv {x:List Int} {f:Tabn.F}:EF x f→EF (F25 x) (Tabn.finv f):=fun ⟨v,h,e⟩ => ⟨v ^ eInv,E_inv h,by rw [toF_inv,e]⟩
theorem RF_add {x y:List Int} {f g:Tabn.F}:RF x f→RF y g→RF (F17 x y) (f + g):=fun ⟨v,h,e⟩ ⟨w,h',e'⟩ => ⟨v + w,R_add h h',by rw [toF_add,e,e']⟩
theorem RF_sub {x y:List Int} {f g:Tabn.F}:RF x f→RF y g→RF (F19 x y) (f - g):=fun ⟨v,h,e⟩ ⟨w,h',e'⟩ => ⟨v - w,R_sub h h',by rw [toF_sub,e,e']⟩
theorem RF_mul {x y:List Int} {f g:Tabn.F}:RF x f→RF y g→RF (F21 x y) (f * g):=fun ⟨v,h,e⟩ ⟨w,h',e'⟩ => ⟨v * w,R_mul h h',by rw [toF_mul,e,e']⟩
theorem RF_inv {x:List Int} {f:Tabn.F}:RF x f→RF (F28 x) (Tabn.finv f):=fun ⟨v,h,e⟩ => ⟨v ^ eInv,R_inv h,by rw [toF_inv,e]⟩
theorem EF.bytes {x:List Int} {f:Tabn.F}:EF x f→F33 x=digs 256 32 (f.val:Int):=fun ⟨v,h,e⟩ => by rw [h.bytes,← e,toF_val]
theorem RF.bytes {x:List Int} {f:Tabn.F}:RF x f→F49 x=digs 256 32 (f.val:Int):=fun ⟨v,h,e⟩ => by rw [F49_val h,← e,toF_val]
theorem RF.len {x:List Int} {f:Tabn.F}:RF x f→x.length=16:=fun ⟨v,h,e⟩ => h.len
theorem EF_one:EF (F30 1) 1:=⟨1,E_small (by decide),by decide⟩
theorem EF_zero:EF (F30 0) 0:=⟨0,E_small (by decide),by decide⟩
theorem RF_one:RF (F31 1) 1:=⟨1,R_small (by decide),by decide⟩
theorem RF_zero:RF (F31 0) 0:=⟨0,R_small (by decide),by decide⟩
def uOf (b:List Int):Tabn.F:=toF (num 256 b % 57896044618658097711785492504343953926634992332820282019728792003956564819968)
theorem EF_read {b:List Int} (hb:Dig 256 b) (hl:b.length=32):EF (F23 b) (uOf b):=⟨_,read_val hb hl,rfl⟩
theorem RF_read {b:List Int} (hb:Dig 256 b) (hl:b.length=32):RF (F24 b) (uOf b):=⟨_,R_read hb hl,rfl⟩
end Go.Vm
set_option linter.unusedVariables false
set_option linter.unusedSimpArgs false
namespace Go.Vm
open Go
theorem byte_248:∀ a,a < 256→a &&& 248=a - a % 8:=by decide +kernel
theorem byte_127:∀ a,a < 256→(a &&& 127) ||| 64=a % 64 + 64:=by decide +kernel
theorem byte_127':∀ a,a < 256→a &&& 127 < 256:=by decide +kernel
theorem and_248 {x:Int} (h:0≤x∧x < 256):iAnd .u8 x 248=x - x % 8:=by
 obtain ⟨a,rfl,ha⟩:=int_nat (N:=256) h
 have:=iAnd_nat uns8 ha (b:=248) (by decide)
 rw [byte_248 a ha] at this
 have e:((a - a % 8:Nat):Int)=(a:Int) - (a:Int) % 8:=by omega
 rw [← e]; exact this
theorem or_64 {x:Int} (h:0≤x∧x < 256):iOr .u8 (iAnd .u8 x 127) 64=x % 64 + 64:=by
 obtain ⟨a,rfl,ha⟩:=int_nat (N:=256) h
 have h1:=iAnd_nat uns8 ha (b:=127) (by decide)
 have h2:=iOr_nat uns8 (byte_127' a ha) (b:=64) (by decide)
 rw [byte_127 a ha] at h2
 have e:((a % 64 + 64:Nat):Int)=(a:Int) % 64 + 64:=by omega
 rw [← e,← h2]
 show iOr .u8 (iAnd .u8 (a:Int) ((127:Nat):Int)) ((64:Nat):Int)=_
 rw [h1]
def trim (b:List Int):List Int:=(b.set 0 (b.getD 0 0 - b.getD 0 0 % 8)).set 31 (b.getD 31 0 % 64 + 64)
theorem F43_val {b:List Int} (hb:Dig 256 b):F43 b=trim b:=by
 unfold F43 trim
 rw [getD_set_ne (by decide),and_248 (getD_dig (by decide) hb),or_64 (getD_dig (by decide) hb)]
theorem F44_val {b:List Int} (hb:Dig 256 b):F44 b=trim b:=by
 unfold F44 trim
 have h0:=getD_dig (i:=0) (by decide) hb
 have h31:=getD_dig (i:=31) (by decide) hb
 have e1:iRem (b.getD 0 0) 8=b.getD 0 0 % 8:=Int.tmod_eq_emod_of_nonneg h0.1
 have e2:iRem (b.getD 31 0) 64=b.getD 31 0 % 64:=Int.tmod_eq_emod_of_nonneg h31.1
 have e3:iSub .u8 (b.getD 0 0) (b.getD 0 0 % 8)=b.getD 0 0 - b.getD 0 0 % 8:=by unfold iSub; rw [wrap_u8]; omega
 have e4:iAdd .u8 (b.getD 31 0 % 64) 64=b.getD 31 0 % 64 + 64:=by unfold iAdd; rw [wrap_u8]; omega
 rw [getD_set_ne (by decide),e1,e2,e3,e4]
theorem trim_dig {b:List Int} (hb:Dig 256 b):Dig 256 (trim b):=by
 have h0:=getD_dig (i:=0) (by decide) hb
 have h31:=getD_dig (i:=31) (by decide) hb
 exact dig_set (dig_set hb (by omega)) (by omega)
theorem trim_len {b:List Int}:(trim b).length=b.length:=by unfold trim; rw [List.length_set,List.length_set]
theorem trim_at0 {b:List Int} (hl:b.length=32):(trim b).getD 0 0=b.getD 0 0 - b.getD 0 0 % 8:=by
 unfold trim; rw [getD_set_ne (by decide),getD_set_eq (by omega)]
theorem trim_at31 {b:List Int} (hl:b.length=32):(trim b).getD 31 0=b.getD 31 0 % 64 + 64:=by
 unfold trim; rw [getD_set_eq (by rw [List.length_set]; omega)]
def trimN (b:List Int):Nat:=(num 256 (trim b)).toNat
theorem trimN_num {b:List Int} (hb:Dig 256 b):num 256 (trim b)=(trimN b:Int):=by
 have h:=num_bd (by decide) (trim_dig hb)
 exact (Int.toNat_of_nonneg h.1).symm
theorem trimN_bd {b:List Int} (hb:Dig 256 b) (hl:b.length=32):trimN b % 8=0∧2 ^ 254≤trimN b∧trimN b < 2 ^ 255:=by
 have h0:=getD_dig (i:=0) (by decide) hb
 have h31:=getD_dig (i:=31) (by decide) hb
 have g0:=getD_num (B:=256) (by decide) (i:=0) (trim_dig hb)
 have g31:=getD_num (B:=256) (by decide) (i:=31) (trim_dig hb)
 have hb':=num_bd (by decide) (trim_dig hb)
 rw [trim_len,hl] at hb'
 rw [trim_at0 hl,Int.pow_zero,Int.ediv_one] at g0
 rw [trim_at31 hl] at g31
 rw [trimN_num hb] at g0 g31 hb'
 have e31:(256:Int) ^ 31=452312848583266388373324160190187140051835877600158453279131187530910662656:=rfl
 have e32:(256:Int) ^ 32=115792089237316195423570985008687907853269984665640564039457584007913129639936:=rfl
 rw [e31] at g31
 rw [e32] at hb'
 have e254:(2:Nat) ^ 254=28948022309329048855892746252171976963317496166410141009864396001978282409984:=rfl
 have e255:(2:Nat) ^ 255=57896044618658097711785492504343953926634992332820282019728792003956564819968:=rfl
 rw [e254,e255]
 generalize trimN b=N at *
 omega
end Go.Vm
set_option linter.unusedVariables false
set_option linter.unusedSimpArgs false
namespace Go.Vm
open Go
theorem itr_rel {α β:Type} (R:Nat→α→β→Prop) {f:Nat→α→α} {g:Nat→β→β}:∀ {n:Nat} {x:α} {y:β},R 0 x y→(∀ k,k < n→∀ a b,R k a b→R (k + 1) (f k a) (g k b))→R n (itr f n x) (itr g n y):=by
 intro n
 induction n with
 | zero => intro x y h0 hs; rw [itr_zero,itr_zero]; exact h0
 | succ n ih =>
  intro x y h0 hs
  rw [itr_succ,itr_succ]
  exact hs n (Nat.lt_succ_self n) _ _ (ih h0 fun k hk => hs k (Nat.lt_succ_of_lt hk))
theorem rot_nat {w n s x:Nat} (hw:n + s=w) (hx:x < 2 ^ w) :
  x * 2 ^ s % 2 ^ w=2 ^ s * (x % 2 ^ n)∧x / 2 ^ n < 2 ^ s∧2 ^ s * (x % 2 ^ n) + x / 2 ^ n < 2 ^ w∧(x / 2 ^ n + x * 2 ^ s) % 2 ^ w=2 ^ s * (x % 2 ^ n) + x / 2 ^ n:=by
 subst hw
 have e1:x * 2 ^ s % 2 ^ (n + s)=2 ^ s * (x % 2 ^ n):=by rw [Nat.pow_add,Nat.mul_comm x,Nat.mul_comm (2 ^ n)]; exact Nat.mul_mod_mul_left _ _ _
 have e2:x / 2 ^ n < 2 ^ s:=Nat.div_lt_of_lt_mul (by rw [← Nat.pow_add]; exact hx)
 have e3:2 ^ s * (x % 2 ^ n) + x / 2 ^ n < 2 ^ (n + s):=by
  have h1:x % 2 ^ n < 2 ^ n:=Nat.mod_lt _ (Nat.pow_pos (by decide))
  have h2:2 ^ s * (x % 2 ^ n + 1)≤2 ^ s * 2 ^ n:=Nat.mul_le_mul_left _ h1
  rw [Nat.pow_add,Nat.mul_comm (2 ^ n)]
  rw [Nat.mul_add] at h2
  omega
 refine ⟨e1,e2,e3,?_⟩
 rw [Nat.add_mod,e1,Nat.mod_eq_of_lt (Nat.lt_of_le_of_lt (Nat.div_le_self _ _) hx),Nat.add_comm,Nat.mod_eq_of_lt e3]
theorem shl_nat {k:IntKind} {N:Nat} (h:Uns k N) {a n:Nat} (hn:n≤k.bits):iShl k (a:Int) (n:Int)=((a * 2 ^ n % N:Nat):Int):=by
 rw [iShl_at k _ _ hn,h.wrap]
 simp
theorem shr_nat (k:IntKind) {a n:Nat} (hn:n≤k.bits):iShr k (a:Int) (n:Int)=((a / 2 ^ n:Nat):Int):=by
 rw [iShr_at k _ _ hn]
 simp
theorem add_nat {k:IntKind} {N:Nat} (h:Uns k N) (a b:Nat):iAdd k (a:Int) (b:Int)=(((a + b) % N:Nat):Int):=by
 show k.wrap _=_
 rw [h.wrap]
 simp
theorem mul_nat {k:IntKind} {N:Nat} (h:Uns k N) (a b:Nat):iMul k (a:Int) (b:Int)=((a * b % N:Nat):Int):=by
 show k.wrap _=_
 rw [h.wrap]
 simp
theorem wrap_nat {k:IntKind} {N:Nat} (h:Uns k N) (a:Nat):k.wrap (a:Int)=((a % N:Nat):Int):=by
 rw [h.wrap]
 simp
theorem rot_or {k:IntKind} {w n s x:Nat} (h:Uns k (2 ^ w)) (hk:k.bits=w) (hw:n + s=w) (hx:x < 2 ^ w) :
  iOr k (iShl k (x:Int) (s:Int)) (iShr k (x:Int) (n:Int))=(((x / 2 ^ n + x * 2 ^ s) % 2 ^ w:Nat):Int):=by
 obtain ⟨e1,e2,e3,e4⟩:=rot_nat hw hx
 rw [shl_nat h (by omega),shr_nat k (by omega),e1,iOr_nat h (by omega) (Nat.lt_of_le_of_lt (Nat.div_le_self _ _) hx),e4,← Nat.two_pow_add_eq_or_of_lt e2]
theorem ch_nat {w a b c:Nat} (ha:a < 2 ^ w):(a &&& b) ^^^ (((2 ^ w - 1) ^^^ a) &&& c)=(a &&& b) ||| (((2 ^ w - 1) ^^^ a) &&& c):=by
 apply Nat.eq_of_testBit_eq
 intro i
 simp only [Nat.testBit_xor,Nat.testBit_and,Nat.testBit_or,Nat.testBit_two_pow_sub_one]
 cases hb:a.testBit i
 ·simp
 ·have:i < w:=by
   apply Classical.byContradiction
   intro hn
   rw [Nat.testBit_lt_two_pow (Nat.lt_of_lt_of_le ha (Nat.pow_le_pow_right (by decide) (by omega)))] at hb
   cases hb
  simp [this]
theorem maj_nat (a b c:Nat):(a &&& b) ^^^ (a &&& c) ^^^ (b &&& c)=((a &&& b) ||| (b &&& c)) ||| (a &&& c):=by
 apply Nat.eq_of_testBit_eq
 intro i
 simp only [Nat.testBit_xor,Nat.testBit_and,Nat.testBit_or]
 cases a.testBit i <;> cases b.testBit i <;> cases c.testBit i <;> rfl
def Wd (w:Nat) (x:Int):Prop:=∃ a:Nat,x=(a:Int)∧a < 2 ^ w
theorem Wd.up {w v:Nat} {x:Int} (h:Wd w x) (hv:w≤v):Wd v x:=by
 obtain ⟨a,rfl,h⟩:=h
 exact ⟨a,rfl,Nat.lt_of_lt_of_le h (Nat.pow_le_pow_right (by decide) hv)⟩
theorem Wd.and {w:Nat} {k:IntKind} (h:Uns k (2 ^ w)) {x y:Int} (hx:Wd w x) (hy:Wd w y):Wd w (iAnd k x y):=by
 obtain ⟨a,rfl,ha⟩:=hx
 obtain ⟨b,rfl,hb⟩:=hy
 exact ⟨_,iAnd_nat h ha hb,Nat.and_lt_two_pow _ hb⟩
theorem Wd.xor {w:Nat} {k:IntKind} (h:Uns k (2 ^ w)) {x y:Int} (hx:Wd w x) (hy:Wd w y):Wd w (iXor k x y):=by
 obtain ⟨a,rfl,ha⟩:=hx
 obtain ⟨b,rfl,hb⟩:=hy
 exact ⟨_,iXor_nat h ha hb,Nat.xor_lt_two_pow ha hb⟩
theorem Wd.mod {w:Nat} (x:Int):Wd w (x % ((2 ^ w:Nat):Int)):=by
 have hp:(0:Int) < ((2 ^ w:Nat):Int):=Int.natCast_pos.2 (Nat.pow_pos (by decide))
 obtain ⟨a,ha⟩:=Int.eq_ofNat_of_zero_le (Int.emod_nonneg x (Int.ne_of_gt hp))
 have h2:=Int.emod_lt_of_pos x hp
 rw [ha] at h2
 exact ⟨a,ha,Int.ofNat_lt.1 h2⟩
theorem Wd.of {w:Nat} {x:Int} (h:0≤x) (h':x < ((2 ^ w:Nat):Int)):Wd w x:=by
 obtain ⟨a,rfl⟩:=Int.eq_ofNat_of_zero_le h
 exact ⟨a,rfl,Int.ofNat_lt.1 h'⟩
theorem adrOne (o i:Nat):adr o i 1=o + i:=by rw [adr_eq]; omega
def Byte (x:Int):Prop:=∃ b:Nat,x=(b:Int)∧b < 256
theorem xor_same {v w:Nat} {k k':IntKind} (h:Uns k (2 ^ w)) (h':Uns k' (2 ^ v)) (hv:w≤v) {x y:Int} (hx:Wd w x) (hy:Wd w y):iXor k' x y=iXor k x y:=by
 have hp:2 ^ w≤2 ^ v:=Nat.pow_le_pow_right (by decide) hv
 obtain ⟨a,rfl,ha⟩:=hx
 obtain ⟨b,rfl,hb⟩:=hy
 rw [iXor_nat h ha hb,iXor_nat h' (by omega) (by omega)]
theorem shr_wd {w n:Nat} (k:IntKind) (hn:n≤k.bits) {x:Int} (hx:Wd w x):Wd w (iShr k x (n:Int)):=by
 obtain ⟨a,rfl,ha⟩:=hx
 exact ⟨_,shr_nat k hn,Nat.lt_of_le_of_lt (Nat.div_le_self _ _) ha⟩
theorem shr_same {w n:Nat} (k k':IntKind) (hn:n≤k.bits) (hn':n≤k'.bits) {x:Int} (hx:Wd w x):iShr k' x (n:Int)=iShr k x (n:Int):=by
 obtain ⟨a,rfl,ha⟩:=hx
 rw [shr_nat k hn,shr_nat k' hn']
theorem ch_same {v w:Nat} {k k':IntKind} (h:Uns k (2 ^ w)) (h':Uns k' (2 ^ v)) (hv:w≤v) {x y z:Int} (hx:Wd w x) (hy:Wd w y) (hz:Wd w z) :
  iOr k' (iAnd k' x y) (iAnd k' (iXor k' ((2 ^ w - 1:Nat):Int) x) z)=iXor k (iAnd k x y) (iAnd k (iXor k ((2 ^ w - 1:Nat):Int) x) z):=by
 have hp:2 ^ w≤2 ^ v:=Nat.pow_le_pow_right (by decide) hv
 obtain ⟨a,rfl,ha⟩:=hx
 obtain ⟨b,rfl,hb⟩:=hy
 obtain ⟨c,rfl,hc⟩:=hz
 have hm:2 ^ w - 1 < 2 ^ w:=Nat.sub_lt (Nat.pow_pos (by decide)) (by decide)
 have hq:=Nat.xor_lt_two_pow hm ha
 have h1:a &&& b < 2 ^ w:=Nat.and_lt_two_pow _ hb
 have h2:((2 ^ w - 1) ^^^ a) &&& c < 2 ^ w:=Nat.and_lt_two_pow _ hc
 rw [iXor_nat h hm ha,iXor_nat h' (by omega) (by omega),iAnd_nat h ha hb,iAnd_nat h' (by omega) (by omega),iAnd_nat h hq hc,iAnd_nat h' (by omega) (by omega),iXor_nat h h1 h2,iOr_nat h' (by omega) (by omega),ch_nat ha]
theorem maj_same {v w:Nat} {k k':IntKind} (h:Uns k (2 ^ w)) (h':Uns k' (2 ^ v)) (hv:w≤v) {x y z:Int} (hx:Wd w x) (hy:Wd w y) (hz:Wd w z) :
  iOr k' (iOr k' (iAnd k' x y) (iAnd k' y z)) (iAnd k' x z)=iXor k (iXor k (iAnd k x y) (iAnd k x z)) (iAnd k y z):=by
 have hp:2 ^ w≤2 ^ v:=Nat.pow_le_pow_right (by decide) hv
 obtain ⟨a,rfl,ha⟩:=hx
 obtain ⟨b,rfl,hb⟩:=hy
 obtain ⟨c,rfl,hc⟩:=hz
 have h1:a &&& b < 2 ^ w:=Nat.and_lt_two_pow _ hb
 have h2:a &&& c < 2 ^ w:=Nat.and_lt_two_pow _ hc
 have h3:b &&& c < 2 ^ w:=Nat.and_lt_two_pow _ hc
 have h4:=Nat.or_lt_two_pow (n:=w) h1 h3
 rw [iAnd_nat h ha hb,iAnd_nat h' (by omega) (by omega),iAnd_nat h ha hc,iAnd_nat h' (by omega) (by omega),iAnd_nat h hb hc,iAnd_nat h' (by omega) (by omega),iXor_nat h h1 h2,iXor_nat h (Nat.xor_lt_two_pow h1 h2) h3,
  iOr_nat h' (by omega) (by omega),iOr_nat h' (by omega) (by omega),maj_nat]
end Go.Vm
