/- What the functions compute, and that they do: walked by a printed text. -/
import Derived.Test.YtnbpdjjcilhjoaaDoorPf
set_option linter.unusedVariables false
set_option linter.unusedSimpArgs false
set_option maxRecDepth 4000
namespace Go.Vm
open Go
noncomputable def FT6l0 (k0:Nat) (z0:Int × List Int):Int × List Int :=
 ((iShr .i64 (iAdd .i64 z0.1 (iAdd .i64 (IntKind.wrap .i64 (z0.2.getD (32 + k0) 0)) (IntKind.wrap .i64 ([237,211,245,92,26,99,18,88,214,156,247,162,222,249,222,20,0,0,0,0,0,0,0,0,0,0,0,0,0,0,0,16].getD k0 0)))) 8),z0.2.set (32 + k0) (IntKind.wrap .u8 (iAdd .i64 z0.1 (iAdd .i64 (IntKind.wrap .i64 (z0.2.getD (32 + k0) 0)) (IntKind.wrap .i64 ([237,211,245,92,26,99,18,88,214,156,247,162,222,249,222,20,0,0,0,0,0,0,0,0,0,0,0,0,0,0,0,16].getD k0 0))))))
noncomputable def FT6 (p0:List Int) (p1:List Int):Bool :=
 (sel (!(FT8)) false (sel (((p0.length:Int):Int) != 32) true (sel (decide (((p1.length:Int):Int) > 300)) true (sel (!(FT13 (part1 (FT9_1 p0) 32 0 32) p1 (part1 ((itr (FT6l0) 32 (0,(FT10_1 p0 p1))).2) 64 0 64))) (sel (!(FT13 (part1 (FT9_1 p0) 32 0 32) p1 (part1 ((FT10_1 p0 p1) ++ [0]) 65 0 65))) (!(FT13 (part1 ((FT9_1 p0) ++ [0]) 33 0 33) p1 (part1 (FT10_1 p0 p1) 64 0 64))) false) false))))
noncomputable def ST6:List AV→Option (Prop × Ret)
 | [.sc (.ro .u8 p0),.sc (.ro .u8 p1)] => some (True,⟨.sc (.b (FT6 p0 p1)),[]⟩)
 | _ => none
noncomputable def BT6:Bs:={ P:=Go.Proofs.Tryd.prog,G:=gD,tab:=tabOf [(8,⟨[],0,ST8⟩),(9,⟨[.ro .u8],1,VT9⟩),(10,⟨[.ro .u8,.ro .u8],1,VT10⟩),(13,⟨[.ro .u8,.ro .u8,.ro .u8],0,ST13⟩),(15,⟨[],1,ST15⟩)],n:=91 }
theorem BT6.ok:BT6.Ok:=⟨tabOk (P:=Go.Proofs.Tryd.prog) (G:=gD) (l:=[(8,⟨[],0,ST8⟩),(9,⟨[.ro .u8],1,VT9⟩),(10,⟨[.ro .u8,.ro .u8],1,VT10⟩),(13,⟨[.ro .u8,.ro .u8,.ro .u8],0,ST13⟩),(15,⟨[],1,ST15⟩)]) (And.intro KT8 (And.intro KV9 (And.intro KV10 (And.intro KT13 (And.intro KT15 True.intro))))),mixed⟩
theorem KT6:Known Go.Proofs.Tryd.prog gD 6 ⟨[.ro .u8,.ro .u8],0,ST6⟩:=by
 refine Known.walk (B:=BT6) (fn:=Go.Proofs.Tryd.f6) BT6.ok (by kernel_rfl) rfl (by kernel_rfl) (by kernel_rfl) (by decide) ?_ ?_
 ·intro vs C r h
  simp only at h
  unfold ST6 at h
  split at h
  ·cases h; rfl
  ·cases h
 ·intro E args C r h hC hlen
  simp only at h
  unfold ST6 at h
  split at h
  rotate_left
  ·cases h
  rename_i p0 p1
  cases h
  simp only [lens] at hlen
  refine ⟨show 2≤91 from by decide,?_⟩
  refine Tri.sub (Sub.of_eq (show _=([(0,qr p0),(1,qr p1)],[]) from rfl)) ?_
  refine sr [] none [0,1] [] (TT∧True)
    ([(0,qr p0),(1,qr p1)],[])
    16 (⟨tt,trivial⟩) ?_
  refine Tri.seq ?_
  refine sr [] none [14,0,1] [] ((TT∧True)∧(TT∧True))
    ([(14,.sc (.b (!(FT8)))),(0,qr p0),(1,qr p1)],[])
    48 (⟨⟨tt,trivial⟩,⟨tt,trivial⟩⟩) ?_
  refine Tri.cond (x:=(!(FT8))) (by kernel_rfl) (fun h1 => ?_) (fun h1 => ?_)
  ·
   refine sr [] none [4] [] (TT∧True)
     ([(4,.sc (.b false))],[])
     64 (⟨tt,trivial⟩) ?_
   refine Tri.ret ?_
   repeat (first | refine thenP_ret ?_ | refine blkP_ret ?_ | refine countP_ret ?_ | refine joinP_ret ?_)
   refine endP.conv (r':=⟨.sc (.b false),[]⟩) (by simp only [FT6,h1,sel_true,sel_false]) ?_
   exact endP.ret [] TT (by kernel_rfl) (by kernel_rfl) (by kernel_rfl) tt
  ·
   refine Tri.skip ?_
   change Tri _ _ _ _ _ _
   refine Tri.seq ?_
   refine Tri.split (((p0.length:Int):Int) != 32) (fun h2 => ?_) (fun h2 => ?_)
   ·
    have h2':=ne_true_i h2
    refine sr [(18,.b true)] none [22,0,1] [] (TT∧(TT∧(TT∧((True∧((((p0.length:Int):Int) != 32)=true))∧(TT∧(TT∧(TT∧(TT∧True))))))))
      ([(22,.sc (.b true)),(0,qr p0),(1,qr p1)],[])
      176 (⟨tt,⟨tt,⟨tt,⟨⟨trivial,(h2)⟩,⟨tt,⟨tt,⟨tt,⟨tt,trivial⟩⟩⟩⟩⟩⟩⟩⟩) ?_
    refine Tri.cond_true (by kernel_rfl) ?_
    refine sr [] none [4] [] (TT∧True)
      ([(4,.sc (.b true))],[])
      192 (⟨tt,trivial⟩) ?_
    refine Tri.ret ?_
    repeat (first | refine thenP_ret ?_ | refine blkP_ret ?_ | refine countP_ret ?_ | refine joinP_ret ?_)
    refine endP.conv (r':=⟨.sc (.b true),[]⟩) (by simp only [FT6,h1,h2,sel_true,sel_false]) ?_
    exact endP.ret [] TT (by kernel_rfl) (by kernel_rfl) (by kernel_rfl) tt
   ·
    have h2':=ne_false_i h2
    refine sr [(18,.b false)] none [22,0,1] [] (TT∧(TT∧(TT∧((True∧((((p0.length:Int):Int) != 32)=false))∧(TT∧(TT∧(TT∧(TT∧True))))))))
      ([(22,.sc (.b (decide (((p1.length:Int):Int) > 300)))),(0,qr p0),(1,qr p1)],[])
      176 (⟨tt,⟨tt,⟨tt,⟨⟨trivial,(h2)⟩,⟨tt,⟨tt,⟨tt,⟨tt,trivial⟩⟩⟩⟩⟩⟩⟩⟩) ?_
    refine Tri.cond (x:=(decide (((p1.length:Int):Int) > 300))) (by kernel_rfl) (fun h3 => ?_) (fun h3 => ?_)
    ·
     have h3':=of_decide_eq_true h3
     refine sr [] none [4] [] (TT∧True)
       ([(4,.sc (.b true))],[])
       192 (⟨tt,trivial⟩) ?_
     refine Tri.ret ?_
     repeat (first | refine thenP_ret ?_ | refine blkP_ret ?_ | refine countP_ret ?_ | refine joinP_ret ?_)
     refine endP.conv (r':=⟨.sc (.b true),[]⟩) (by simp only [FT6,h1,h2,h3,sel_true,sel_false]) ?_
     exact endP.ret [] TT (by kernel_rfl) (by kernel_rfl) (by kernel_rfl) tt
    ·
     have h3':=of_decide_eq_false h3
     refine Tri.skip ?_
     change Tri _ _ _ _ _ _
     refine sr [] none [5,0,1] [192] (TT∧(((True∧(p0.length=32))∧True)∧(TT∧(TT∧(TT∧(TT∧(TT∧True)))))))
       ([(5,.sc (.sl 192 0 32 1 (some 32))),(0,qr p0),(1,qr p1)],[(192,.ints .u8 32 (FT9_1 p0))])
       288 (⟨tt,⟨⟨⟨trivial,(by exact (by first | omega | (rw [part1_all rfl]; omega) | (rw [part1_all (n:=32) rfl]; rfl) | exact part1_le (by omega) (by omega) | exact part1_le (by decide) (by decide)))⟩,trivial⟩,⟨tt,⟨tt,⟨tt,⟨tt,⟨tt,trivial⟩⟩⟩⟩⟩⟩⟩) ?_
     refine Tri.len 192 rfl (fun hl4 => ?_)
     refine sr [] none [7,5,1] [320,192] (TT∧(TT∧(((True∧(p0.length=32∧p1.length≤10000))∧True)∧(TT∧(TT∧(TT∧(TT∧(TT∧True))))))))
       ([(7,.sc (.sl 320 0 64 1 none)),(5,.sc (.sl 192 0 32 1 (some 32))),(1,qr p1)],[(320,.ints .u8 64 (FT10_1 p0 p1)),(192,.ints .u8 32 (FT9_1 p0))])
       416 (⟨tt,⟨tt,⟨⟨⟨trivial,(by exact ⟨(by first | omega | (rw [part1_all rfl]; omega) | (rw [part1_all (n:=32) rfl]; rfl) | exact part1_le (by omega) (by omega) | exact part1_le (by decide) (by decide)),(by first | omega | (rw [part1_all rfl]; omega) | (rw [part1_all (n:=32) rfl]; rfl) | exact part1_le (by omega) (by omega) | exact part1_le (by decide) (by decide))⟩)⟩,trivial⟩,⟨tt,⟨tt,⟨tt,⟨tt,⟨tt,trivial⟩⟩⟩⟩⟩⟩⟩⟩) ?_
     refine Tri.seq ?_
     refine sr [] none [36,7,5,1] [320,192] (TT∧(TT∧(TT∧True)))
       ([(36,.sc (.b false)),(7,.sc (.sl 320 0 64 1 none)),(5,.sc (.sl 192 0 32 1 (some 32))),(1,qr p1)],[(320,.ints .u8 64 (FT10_1 p0 p1)),(192,.ints .u8 32 (FT9_1 p0))])
       464 (⟨tt,⟨tt,⟨tt,trivial⟩⟩⟩) ?_
     refine Tri.cond_false (by kernel_rfl) ?_
     refine Tri.skip ?_
     change Tri _ _ _ _ _ _
     refine sr [] none [9,7,5,1] [480,320,192] (TT∧(((((True∧(1=1))∧((0 < 1)∧((64 * 1≤140737488355328)∧(64≤140737488355328))))∧(64=64 * 1))∧True)∧(TT∧True)))
       ([(9,.sc (.sl 480 0 64 1 none)),(7,.sc (.sl 320 0 64 1 none)),(5,.sc (.sl 192 0 32 1 (some 32))),(1,qr p1)],[(480,.ints .u8 64 (FT10_1 p0 p1)),(320,.ints .u8 64 (FT10_1 p0 p1)),(192,.ints .u8 32 (FT9_1 p0))])
       512 (⟨tt,⟨⟨⟨⟨⟨trivial,(rfl)⟩,⟨(by omega),⟨(by omega),(by omega)⟩⟩⟩,(by omega)⟩,trivial⟩,⟨tt,trivial⟩⟩⟩) ?_
     refine sr [] none [10,9,7,5,1] [480,320,192] (TT∧True)
       ([(10,qi 0),(9,.sc (.sl 480 0 64 1 none)),(7,.sc (.sl 320 0 64 1 none)),(5,.sc (.sl 192 0 32 1 (some 32))),(1,qr p1)],[(480,.ints .u8 64 (FT10_1 p0 p1)),(320,.ints .u8 64 (FT10_1 p0 p1)),(192,.ints .u8 32 (FT9_1 p0))])
       528 (⟨tt,trivial⟩) ?_
     refine Tri.seq ?_
     refine sr [] none [41,40,39,10,9,7,5,1] [528,480,320,192] ((TT∧True)∧(TT∧(TT∧True)))
       ([(41,qi 0),(40,qi 32),(39,.sc (.sl 528 0 32 1 none)),(10,qi 0),(9,.sc (.sl 480 0 64 1 none)),(7,.sc (.sl 320 0 64 1 none)),(5,.sc (.sl 192 0 32 1 (some 32))),(1,qr p1)],[(528,.ints .u8 32 [237,211,245,92,26,99,18,88,214,156,247,162,222,249,222,20,0,0,0,0,0,0,0,0,0,0,0,0,0,0,0,16]),(480,.ints .u8 64 (FT10_1 p0 p1)),(320,.ints .u8 64 (FT10_1 p0 p1)),(192,.ints .u8 32 (FT9_1 p0))])
       576 (⟨⟨tt,trivial⟩,⟨tt,⟨tt,trivial⟩⟩⟩) ?_
     refine Tri.block ?_
     refine Tri.count 576 32 (FT6l0) (0,(FT10_1 p0 p1)) (fun k0 z0 => True) (fun k0 z0 => ([(41,qi (k0:Int)),(40,qi 32),(39,.sc (.sl 528 0 32 1 none)),(10,qi z0.1),(9,.sc (.sl 480 0 64 1 none)),(7,.sc (.sl 320 0 64 1 none)),(5,.sc (.sl 192 0 32 1 (some 32))),(1,qr p1)],[(528,.ints .u8 32 [237,211,245,92,26,99,18,88,214,156,247,162,222,249,222,20,0,0,0,0,0,0,0,0,0,0,0,0,0,0,0,16]),(480,.ints .u8 64 z0.2),(320,.ints .u8 64 (FT10_1 p0 p1)),(192,.ints .u8 32 (FT9_1 p0))])) trivial (Sub.of_eq (by kernel_rfl)) ?_
     intro k0 z0 hk0 hz0 hJ0
     refine sr [] none [42,41,40,39,10,9,7,5,1] [528,480,320,192] (TT∧True)
       ([(42,.sc (.b (decide (((k0:Int):Int) < 32)))),(41,qi (k0:Int)),(40,qi 32),(39,.sc (.sl 528 0 32 1 none)),(10,qi z0.1),(9,.sc (.sl 480 0 64 1 none)),(7,.sc (.sl 320 0 64 1 none)),(5,.sc (.sl 192 0 32 1 (some 32))),(1,qr p1)],[(528,.ints .u8 32 [237,211,245,92,26,99,18,88,214,156,247,162,222,249,222,20,0,0,0,0,0,0,0,0,0,0,0,0,0,0,0,16]),(480,.ints .u8 64 z0.2),(320,.ints .u8 64 (FT10_1 p0 p1)),(192,.ints .u8 32 (FT9_1 p0))])
       592 (⟨tt,trivial⟩) ?_
     refine Tri.seq ?_
     refine Tri.cond (x:=(decide (((k0:Int):Int) < 32))) (by kernel_rfl) (fun h5 => ?_) (fun h5 => ?_)
     ·
      have h5':=of_decide_eq_true h5
      refine Tri.skip ?_
      change Tri _ _ _ _ _ _
      refine Tri.seq ?_
      refine Tri.block ?_
      refine sr [] none [12,11,41,40,39,10,9,7,5,1] [528,480,320,192] (TT∧((((0:Int)≤(k0:Int)∧(k0:Int) < ((32:Nat):Int))∧True)∧(((k0 < 32)∧True)∧(TT∧(TT∧True)))))
        ([(12,.sc (.i .u8 ([237,211,245,92,26,99,18,88,214,156,247,162,222,249,222,20,0,0,0,0,0,0,0,0,0,0,0,0,0,0,0,16].getD k0 0))),(11,qi (k0:Int)),(41,qi (k0:Int)),(40,qi 32),(39,.sc (.sl 528 0 32 1 none)),(10,qi z0.1),(9,.sc (.sl 480 0 64 1 none)),(7,.sc (.sl 320 0 64 1 none)),(5,.sc (.sl 192 0 32 1 (some 32))),(1,qr p1)],[(528,.ints .u8 32 [237,211,245,92,26,99,18,88,214,156,247,162,222,249,222,20,0,0,0,0,0,0,0,0,0,0,0,0,0,0,0,16]),(480,.ints .u8 64 z0.2),(320,.ints .u8 64 (FT10_1 p0 p1)),(192,.ints .u8 32 (FT9_1 p0))])
        672 (⟨tt,⟨⟨(by omega),trivial⟩,⟨⟨(by omega),trivial⟩,⟨tt,⟨tt,trivial⟩⟩⟩⟩⟩) ?_
      refine sr [(49,.i .i64 ((32 + k0:Nat):Int))] none [10,11,41,40,39,9,7,5,1] [528,480,320,192] (TT∧(TT∧(TT∧((True∧((iAdd .i64 32 (k0:Int))=((32 + k0:Nat):Int)))∧((((0:Int)≤((32 + k0:Nat):Int)∧((32 + k0:Nat):Int) < ((64:Nat):Int))∧True)∧(((32 + k0 < 64)∧True)∧(TT∧(TT∧(TT∧(TT∧(TT∧(TT∧True))))))))))))
        ([(10,qi (iAdd .i64 z0.1 (iAdd .i64 (IntKind.wrap .i64 (z0.2.getD (32 + k0) 0)) (IntKind.wrap .i64 ([237,211,245,92,26,99,18,88,214,156,247,162,222,249,222,20,0,0,0,0,0,0,0,0,0,0,0,0,0,0,0,16].getD k0 0))))),(11,qi (k0:Int)),(41,qi (k0:Int)),(40,qi 32),(39,.sc (.sl 528 0 32 1 none)),(9,.sc (.sl 480 0 64 1 none)),(7,.sc (.sl 320 0 64 1 none)),(5,.sc (.sl 192 0 32 1 (some 32))),(1,qr p1)],[(528,.ints .u8 32 [237,211,245,92,26,99,18,88,214,156,247,162,222,249,222,20,0,0,0,0,0,0,0,0,0,0,0,0,0,0,0,16]),(480,.ints .u8 64 z0.2),(320,.ints .u8 64 (FT10_1 p0 p1)),(192,.ints .u8 32 (FT9_1 p0))])
        864 (⟨tt,⟨tt,⟨tt,⟨⟨trivial,(iAdd_nat (a:=32) (b:=k0) (by omega))⟩,⟨⟨(by omega),trivial⟩,⟨⟨(by omega),trivial⟩,⟨tt,⟨tt,⟨tt,⟨tt,⟨tt,⟨tt,trivial⟩⟩⟩⟩⟩⟩⟩⟩⟩⟩⟩⟩) ?_
      refine sr [(59,.i .i64 ((32 + k0:Nat):Int))] none [10,41,40,39,9,7,5,1] [480,528,320,192] (TT∧(TT∧((True∧((iAdd .i64 32 (k0:Int))=((32 + k0:Nat):Int)))∧(TT∧(TT∧((((0:Int)≤((32 + k0:Nat):Int)∧((32 + k0:Nat):Int) < ((64:Nat):Int))∧True)∧((((32 + k0 < 64)∧(1=1))∧True)∧True)))))))
        ([(10,qi (iAdd .i64 z0.1 (iAdd .i64 (IntKind.wrap .i64 (z0.2.getD (32 + k0) 0)) (IntKind.wrap .i64 ([237,211,245,92,26,99,18,88,214,156,247,162,222,249,222,20,0,0,0,0,0,0,0,0,0,0,0,0,0,0,0,16].getD k0 0))))),(41,qi (k0:Int)),(40,qi 32),(39,.sc (.sl 528 0 32 1 none)),(9,.sc (.sl 480 0 64 1 none)),(7,.sc (.sl 320 0 64 1 none)),(5,.sc (.sl 192 0 32 1 (some 32))),(1,qr p1)],[(480,.ints .u8 64 (z0.2.set (32 + k0) (IntKind.wrap .u8 (iAdd .i64 z0.1 (iAdd .i64 (IntKind.wrap .i64 (z0.2.getD (32 + k0) 0)) (IntKind.wrap .i64 ([237,211,245,92,26,99,18,88,214,156,247,162,222,249,222,20,0,0,0,0,0,0,0,0,0,0,0,0,0,0,0,16].getD k0 0))))))),(528,.ints .u8 32 [237,211,245,92,26,99,18,88,214,156,247,162,222,249,222,20,0,0,0,0,0,0,0,0,0,0,0,0,0,0,0,16]),(320,.ints .u8 64 (FT10_1 p0 p1)),(192,.ints .u8 32 (FT9_1 p0))])
        976 (⟨tt,⟨tt,⟨⟨trivial,(iAdd_nat (a:=32) (b:=k0) (by omega))⟩,⟨tt,⟨tt,⟨⟨(by omega),trivial⟩,⟨⟨⟨(by omega),(rfl)⟩,trivial⟩,trivial⟩⟩⟩⟩⟩⟩⟩) ?_
      refine rr [] none [10,41,40,39,9,7,5,1] [480,528,320,192] (TT∧((((0:Int)≤8)∧True)∧(TT∧True)))
        ([(10,qi (iShr .i64 (iAdd .i64 z0.1 (iAdd .i64 (IntKind.wrap .i64 (z0.2.getD (32 + k0) 0)) (IntKind.wrap .i64 ([237,211,245,92,26,99,18,88,214,156,247,162,222,249,222,20,0,0,0,0,0,0,0,0,0,0,0,0,0,0,0,16].getD k0 0)))) 8)),(41,qi (k0:Int)),(40,qi 32),(39,.sc (.sl 528 0 32 1 none)),(9,.sc (.sl 480 0 64 1 none)),(7,.sc (.sl 320 0 64 1 none)),(5,.sc (.sl 192 0 32 1 (some 32))),(1,qr p1)],[(480,.ints .u8 64 (z0.2.set (32 + k0) (IntKind.wrap .u8 (iAdd .i64 z0.1 (iAdd .i64 (IntKind.wrap .i64 (z0.2.getD (32 + k0) 0)) (IntKind.wrap .i64 ([237,211,245,92,26,99,18,88,214,156,247,162,222,249,222,20,0,0,0,0,0,0,0,0,0,0,0,0,0,0,0,16].getD k0 0))))))),(528,.ints .u8 32 [237,211,245,92,26,99,18,88,214,156,247,162,222,249,222,20,0,0,0,0,0,0,0,0,0,0,0,0,0,0,0,16]),(320,.ints .u8 64 (FT10_1 p0 p1)),(192,.ints .u8 32 (FT9_1 p0))])
        1024 (⟨tt,⟨⟨(by omega),trivial⟩,⟨tt,trivial⟩⟩⟩) ?_
      change Tri _ _ _ _ _ _
      refine rr [(65,.i .i64 ((k0 + 1:Nat):Int))] none [41,10,40,39,9,7,5,1] [480,528,320,192] ((True∧((iAdd .i64 (k0:Int) 1)=((k0 + 1:Nat):Int)))∧(TT∧True))
        ([(41,qi ((k0 + 1:Nat):Int)),(10,qi (iShr .i64 (iAdd .i64 z0.1 (iAdd .i64 (IntKind.wrap .i64 (z0.2.getD (32 + k0) 0)) (IntKind.wrap .i64 ([237,211,245,92,26,99,18,88,214,156,247,162,222,249,222,20,0,0,0,0,0,0,0,0,0,0,0,0,0,0,0,16].getD k0 0)))) 8)),(40,qi 32),(39,.sc (.sl 528 0 32 1 none)),(9,.sc (.sl 480 0 64 1 none)),(7,.sc (.sl 320 0 64 1 none)),(5,.sc (.sl 192 0 32 1 (some 32))),(1,qr p1)],[(480,.ints .u8 64 (z0.2.set (32 + k0) (IntKind.wrap .u8 (iAdd .i64 z0.1 (iAdd .i64 (IntKind.wrap .i64 (z0.2.getD (32 + k0) 0)) (IntKind.wrap .i64 ([237,211,245,92,26,99,18,88,214,156,247,162,222,249,222,20,0,0,0,0,0,0,0,0,0,0,0,0,0,0,0,16].getD k0 0))))))),(528,.ints .u8 32 [237,211,245,92,26,99,18,88,214,156,247,162,222,249,222,20,0,0,0,0,0,0,0,0,0,0,0,0,0,0,0,16]),(320,.ints .u8 64 (FT10_1 p0 p1)),(192,.ints .u8 32 (FT9_1 p0))])
        1056 (⟨⟨trivial,(iAdd_nat (a:=k0) (b:=1) (by omega))⟩,⟨tt,trivial⟩⟩) ?_
      repeat (refine blkP_normal ?_)
      refine countP_normal (by omega) trivial ?_
      exact Sub.ren (ns:=[(528,528),(480,480),(320,320),(192,192)]) (kf:=[41,40,39,10,9,7,5,1]) (by kernel_rfl) (by kernel_rfl)
     ·
      have h5':=of_decide_eq_false h5
      refine Tri.exit ?_
      have hend0:k0=32:=by (have:=of_decide_eq_false h5; omega)
      subst hend0; subst hz0
      change Tri _ _ _ _ _ _
      refine Tri.split (!(FT13 (part1 (FT9_1 p0) 32 0 32) p1 (part1 ((itr (FT6l0) 32 (0,(FT10_1 p0 p1))).2) 64 0 64))) (fun h6 => ?_) (fun h6 => ?_)
      ·
       refine Tri.split (!(FT13 (part1 (FT9_1 p0) 32 0 32) p1 (part1 ((FT10_1 p0 p1) ++ [0]) 65 0 65))) (fun h7 => ?_) (fun h7 => ?_)
       ·
        refine Tri.len 480 rfl (fun hl8 => ?_)
        refine Tri.len 320 rfl (fun hl9 => ?_)
        refine Tri.len 192 rfl (fun hl10 => ?_)
        refine sr [(71,.b true),(81,.b true)] none [4] [] (TT∧(TT∧(TT∧(((((0 + 32≤32)∧((0 + 64≤64)∧True))∧(p1.length≤10000))∧True)∧(TT∧((True∧((!(FT13 (part1 (FT9_1 p0) 32 0 32) p1 (part1 ((itr (FT6l0) 32 (0,(FT10_1 p0 p1))).2) 64 0 64)))=true))∧(TT∧(TT∧(TT∧((((0:Int)≤0∧(0:Int)≤64∧(64:Int)≤64∧(64:Int)≤((64:Nat):Int))∧True)∧((((((0 < 1)∧(1=1))∧True)∧((1 * 1≤16777216)∧(1=1)))∧True)∧((((((TT∧(1=1))∧((0 < 1)∧((65 * 1≤140737488355328)∧(65≤140737488355328))))∧(1=1 * 1))∧((1=1)∧((64=64)∧(0 < 1))))∧True)∧(((((0 + 32≤32)∧((0 + 65≤65)∧True))∧(p1.length≤10000))∧True)∧(TT∧(TT∧((True∧((!(FT13 (part1 (FT9_1 p0) 32 0 32) p1 (part1 ((FT10_1 p0 p1) ++ [0]) 65 0 65)))=true))∧(TT∧((((0:Int)≤0∧(0:Int)≤32∧(32:Int)≤32∧(32:Int)≤((32:Nat):Int))∧True)∧((((((0 < 1)∧(1=1))∧True)∧((1 * 1≤16777216)∧(1=1)))∧True)∧((((((TT∧(1=1))∧((0 < 1)∧((33 * 1≤140737488355328)∧(33≤140737488355328))))∧(1=1 * 1))∧((1=1)∧((32=32)∧(0 < 1))))∧True)∧(TT∧(TT∧(((((0 + 33≤33)∧((0 + 64≤64)∧True))∧(p1.length≤10000))∧True)∧(TT∧(TT∧(TT∧True))))))))))))))))))))))))))
          ([(4,.sc (.b (!(FT13 (part1 ((FT9_1 p0) ++ [0]) 33 0 33) p1 (part1 (FT10_1 p0 p1) 64 0 64)))))],[])
          1008 (⟨tt,⟨tt,⟨tt,⟨⟨⟨⟨(by omega),⟨(by omega),trivial⟩⟩,(by omega)⟩,trivial⟩,⟨tt,⟨⟨trivial,(h6)⟩,⟨tt,⟨tt,⟨tt,⟨⟨(by omega),trivial⟩,⟨⟨⟨⟨⟨(by omega),(rfl)⟩,trivial⟩,⟨(by omega),(rfl)⟩⟩,trivial⟩,⟨⟨⟨⟨⟨⟨tt,(rfl)⟩,⟨(by omega),⟨(by omega),(by omega)⟩⟩⟩,(by omega)⟩,⟨(rfl),⟨(by omega),(by omega)⟩⟩⟩,trivial⟩,⟨⟨⟨⟨(by omega),⟨(by omega),trivial⟩⟩,(by omega)⟩,trivial⟩,⟨tt,⟨tt,⟨⟨trivial,(h7)⟩,⟨tt,⟨⟨(by omega),trivial⟩,⟨⟨⟨⟨⟨(by omega),(rfl)⟩,trivial⟩,⟨(by omega),(rfl)⟩⟩,trivial⟩,⟨⟨⟨⟨⟨⟨tt,(rfl)⟩,⟨(by omega),⟨(by omega),(by omega)⟩⟩⟩,(by omega)⟩,⟨(rfl),⟨(by omega),(by omega)⟩⟩⟩,trivial⟩,⟨tt,⟨tt,⟨⟨⟨⟨(by omega),⟨(by omega),trivial⟩⟩,(by omega)⟩,trivial⟩,⟨tt,⟨tt,⟨tt,trivial⟩⟩⟩⟩⟩⟩⟩⟩⟩⟩⟩⟩⟩⟩⟩⟩⟩⟩⟩⟩⟩⟩⟩⟩⟩⟩) ?_
        refine Tri.ret ?_
        repeat (first | refine thenP_ret ?_ | refine blkP_ret ?_ | refine countP_ret ?_ | refine joinP_ret ?_)
        refine endP.conv (r':=⟨.sc (.b (!(FT13 (part1 ((FT9_1 p0) ++ [0]) 33 0 33) p1 (part1 (FT10_1 p0 p1) 64 0 64)))),[]⟩) (by simp only [FT6,h1,h2,h3,h6,h7,sel_true,sel_false]) ?_
        exact endP.ret [] TT (by kernel_rfl) (by kernel_rfl) (by kernel_rfl) tt
       ·
        refine Tri.len 480 rfl (fun hl11 => ?_)
        refine Tri.len 320 rfl (fun hl12 => ?_)
        refine Tri.len 192 rfl (fun hl13 => ?_)
        refine sr [(71,.b true),(81,.b false)] none [4] [] (TT∧(TT∧(TT∧(((((0 + 32≤32)∧((0 + 64≤64)∧True))∧(p1.length≤10000))∧True)∧(TT∧((True∧((!(FT13 (part1 (FT9_1 p0) 32 0 32) p1 (part1 ((itr (FT6l0) 32 (0,(FT10_1 p0 p1))).2) 64 0 64)))=true))∧(TT∧(TT∧(TT∧((((0:Int)≤0∧(0:Int)≤64∧(64:Int)≤64∧(64:Int)≤((64:Nat):Int))∧True)∧((((((0 < 1)∧(1=1))∧True)∧((1 * 1≤16777216)∧(1=1)))∧True)∧((((((TT∧(1=1))∧((0 < 1)∧((65 * 1≤140737488355328)∧(65≤140737488355328))))∧(1=1 * 1))∧((1=1)∧((64=64)∧(0 < 1))))∧True)∧(((((0 + 32≤32)∧((0 + 65≤65)∧True))∧(p1.length≤10000))∧True)∧(TT∧(TT∧((True∧((!(FT13 (part1 (FT9_1 p0) 32 0 32) p1 (part1 ((FT10_1 p0 p1) ++ [0]) 65 0 65)))=false))∧(TT∧(TT∧(TT∧(TT∧(TT∧(TT∧(TT∧(TT∧(TT∧(TT∧True))))))))))))))))))))))))))
          ([(4,.sc (.b false))],[])
          1008 (⟨tt,⟨tt,⟨tt,⟨⟨⟨⟨(by omega),⟨(by omega),trivial⟩⟩,(by omega)⟩,trivial⟩,⟨tt,⟨⟨trivial,(h6)⟩,⟨tt,⟨tt,⟨tt,⟨⟨(by omega),trivial⟩,⟨⟨⟨⟨⟨(by omega),(rfl)⟩,trivial⟩,⟨(by omega),(rfl)⟩⟩,trivial⟩,⟨⟨⟨⟨⟨⟨tt,(rfl)⟩,⟨(by omega),⟨(by omega),(by omega)⟩⟩⟩,(by omega)⟩,⟨(rfl),⟨(by omega),(by omega)⟩⟩⟩,trivial⟩,⟨⟨⟨⟨(by omega),⟨(by omega),trivial⟩⟩,(by omega)⟩,trivial⟩,⟨tt,⟨tt,⟨⟨trivial,(h7)⟩,⟨tt,⟨tt,⟨tt,⟨tt,⟨tt,⟨tt,⟨tt,⟨tt,⟨tt,⟨tt,trivial⟩⟩⟩⟩⟩⟩⟩⟩⟩⟩⟩⟩⟩⟩⟩⟩⟩⟩⟩⟩⟩⟩⟩⟩⟩⟩) ?_
        refine Tri.ret ?_
        repeat (first | refine thenP_ret ?_ | refine blkP_ret ?_ | refine countP_ret ?_ | refine joinP_ret ?_)
        refine endP.conv (r':=⟨.sc (.b false),[]⟩) (by simp only [FT6,h1,h2,h3,h6,h7,sel_true,sel_false]) ?_
        exact endP.ret [] TT (by kernel_rfl) (by kernel_rfl) (by kernel_rfl) tt
      ·
       refine Tri.len 480 rfl (fun hl14 => ?_)
       refine Tri.len 320 rfl (fun hl15 => ?_)
       refine Tri.len 192 rfl (fun hl16 => ?_)
       refine sr [(71,.b false)] none [4] [] (TT∧(TT∧(TT∧(((((0 + 32≤32)∧((0 + 64≤64)∧True))∧(p1.length≤10000))∧True)∧(TT∧((True∧((!(FT13 (part1 (FT9_1 p0) 32 0 32) p1 (part1 ((itr (FT6l0) 32 (0,(FT10_1 p0 p1))).2) 64 0 64)))=false))∧(TT∧(TT∧(TT∧(TT∧(TT∧(TT∧(TT∧(TT∧(TT∧(TT∧(TT∧(TT∧(TT∧(TT∧(TT∧(TT∧(TT∧(TT∧(TT∧(TT∧True))))))))))))))))))))))))))
         ([(4,.sc (.b false))],[])
         1008 (⟨tt,⟨tt,⟨tt,⟨⟨⟨⟨(by omega),⟨(by omega),trivial⟩⟩,(by omega)⟩,trivial⟩,⟨tt,⟨⟨trivial,(h6)⟩,⟨tt,⟨tt,⟨tt,⟨tt,⟨tt,⟨tt,⟨tt,⟨tt,⟨tt,⟨tt,⟨tt,⟨tt,⟨tt,⟨tt,⟨tt,⟨tt,⟨tt,⟨tt,⟨tt,⟨tt,trivial⟩⟩⟩⟩⟩⟩⟩⟩⟩⟩⟩⟩⟩⟩⟩⟩⟩⟩⟩⟩⟩⟩⟩⟩⟩⟩) ?_
       refine Tri.ret ?_
       repeat (first | refine thenP_ret ?_ | refine blkP_ret ?_ | refine countP_ret ?_ | refine joinP_ret ?_)
       refine endP.conv (r':=⟨.sc (.b false),[]⟩) (by simp only [FT6,h1,h2,h3,h6,sel_true,sel_false]) ?_
       exact endP.ret [] TT (by kernel_rfl) (by kernel_rfl) (by kernel_rfl) tt
end Go.Vm
