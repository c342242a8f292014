/- A part of the proofs of chapter 05: the small machine that walks the program, the walks of its functions, and what they compute in plain. -/
import Derived.Test.YtnbpdjjcilhjoaaDoorPb
set_option linter.unusedVariables false
set_option linter.unusedSimpArgs false
set_option maxRecDepth 4000
namespace Go.Vm
open Go
noncomputable def FD51 (p0:Int) (p1:Int):Int :=
 (iOr .u64 (iShl .u64 p0 (iAnd .u64 (IntKind.wrap .u64 p1) 63)) (iShr .u64 p0 (iSub .u64 64 (iAnd .u64 (IntKind.wrap .u64 p1) 63))))
noncomputable def SD51:List AV→Option (Prop × Ret)
 | [.sc (.i .u64 p0),.sc (.i .i64 p1)] => some (True,⟨.sc (.i .u64 (FD51 p0 p1)),[]⟩)
 | _ => none
noncomputable def BD51:Bs:={ P:=Go.Proofs.Tryd.prog,G:=gD,tab:=tabOf [],n:=17 }
theorem BD51.ok:BD51.Ok:=⟨tabOk (P:=Go.Proofs.Tryd.prog) (G:=gD) (l:=[]) True.intro,mixed⟩
theorem KD51:Known Go.Proofs.Tryd.prog gD 47 ⟨[.val,.val],0,SD51⟩:=by
 refine Known.walk (B:=BD51) (fn:=Go.Proofs.Tryd.f47) BD51.ok (by kernel_rfl) rfl (by kernel_rfl) (by kernel_rfl) (by decide) ?_ ?_
 ·intro vs C r h
  simp only at h
  unfold SD51 at h
  split at h
  ·cases h; rfl
  ·cases h
 ·intro E args C r h hC hlen
  simp only at h
  unfold SD51 at h
  split at h
  rotate_left
  ·cases h
  rename_i p0 p1
  cases h
  simp only [lens] at hlen
  refine ⟨show 2≤17 from by decide,?_⟩
  refine Tri.sub (Sub.of_eq (show _=([(0,.sc (.i .u64 p0)),(1,qi p1)],[]) from rfl)) ?_
  refine sr [] none [0,1] [] (TT∧True)
    ([(0,.sc (.i .u64 p0)),(1,qi p1)],[])
    16 (⟨tt,trivial⟩) ?_
  refine sr [] none [5,0] [] (TT∧(TT∧(TT∧(TT∧True))))
    ([(5,.sc (.i .u64 (iAnd .u64 (IntKind.wrap .u64 p1) 63))),(0,.sc (.i .u64 p0))],[])
    80 (⟨tt,⟨tt,⟨tt,⟨tt,trivial⟩⟩⟩⟩) ?_
  refine sr [] none [4] [] (TT∧(TT∧((((0:Int)≤(iAnd .u64 (IntKind.wrap .u64 p1) 63))∧True)∧(TT∧(TT∧(TT∧((((0:Int)≤(iSub .u64 64 (iAnd .u64 (IntKind.wrap .u64 p1) 63)))∧True)∧(TT∧(TT∧True)))))))))
    ([(4,.sc (.i .u64 (iOr .u64 (iShl .u64 p0 (iAnd .u64 (IntKind.wrap .u64 p1) 63)) (iShr .u64 p0 (iSub .u64 64 (iAnd .u64 (IntKind.wrap .u64 p1) 63))))))],[])
    224 (⟨tt,⟨tt,⟨⟨(by first | omega | (rw [adr_eq]; omega) | exact iAnd_nn _ _ | exact iSub_nn _ _ | exact part1_le (by omega) (by first | omega | (simp only [List.length_append]; omega)) | (rw [iMul_i64 (by omega) (by omega)]; omega) | decide),trivial⟩,⟨tt,⟨tt,⟨tt,⟨⟨(by first | omega | (unfold iSub; rw [wrap_small (by omega) (by omega)]; omega) | exact iAnd_nn _ _ | exact iSub_nn _ _),trivial⟩,⟨tt,⟨tt,trivial⟩⟩⟩⟩⟩⟩⟩⟩⟩) ?_
  refine Tri.ret ?_
  exact endP.ret [] TT (by kernel_rfl) (by kernel_rfl) (by kernel_rfl) tt
noncomputable def FD49w128l0 (k0:Nat) (z0:Nat × List Int):Nat × List Int :=
 (z0.1 + 1,z0.2 ++ [0])
noncomputable def FD49w128l1 (p0:List Int) (k1:Nat) (z1:Nat × List Int):Nat × List Int :=
 (z1.1 + 1,z1.2 ++ [(IntKind.wrap .u8 (iShr .u64 (iMul .u64 (IntKind.wrap .u64 (p0.length:Int)) 8) ((8 * (8 - 1 - k1):Nat):Int)))])
noncomputable def FD49w128 (p0:List Int):List Int :=
 (itr (FD49w128l1 p0) 8 (((itr (FD49w128l0) ((239 - p0.length % 128) % 128) (p0.length + 1,p0 ++ [128])).1) + 8,((itr (FD49w128l0) ((239 - p0.length % 128) % 128) (p0.length + 1,p0 ++ [128])).2) ++ (List.replicate 8 0))).2
noncomputable def FD49w128n0 (p0:List Int):Nat :=
 (itr (FD49w128l1 p0) 8 (((itr (FD49w128l0) ((239 - p0.length % 128) % 128) (p0.length + 1,p0 ++ [128])).1) + 8,((itr (FD49w128l0) ((239 - p0.length % 128) % 128) (p0.length + 1,p0 ++ [128])).2) ++ (List.replicate 8 0))).1
noncomputable def SD49w128:List AV→Option (Prop × Ret)
 | [.sc (.ro .u8 p0),.sc (.i .i64 128)] => some (p0.length≤1000000000,⟨.sc (.sl 0 0 (FD49w128n0 p0) 1 none),[.ints .u8 (FD49w128n0 p0) (FD49w128 p0)]⟩)
 | _ => none
noncomputable def BD49w128:Bs:={ P:=Go.Proofs.Tryd.prog,G:=gD,tab:=tabOf [],n:=44 }
theorem BD49w128.ok:BD49w128.Ok:=⟨tabOk (P:=Go.Proofs.Tryd.prog) (G:=gD) (l:=[]) True.intro,mixed⟩
theorem KD49w128:Known Go.Proofs.Tryd.prog gD 46 ⟨[.ro .u8,.val],1,SD49w128⟩:=by
 refine Known.walk (B:=BD49w128) (fn:=Go.Proofs.Tryd.f46) BD49w128.ok (by kernel_rfl) rfl (by kernel_rfl) (by kernel_rfl) (by decide) ?_ ?_
 ·intro vs C r h
  simp only at h
  unfold SD49w128 at h
  split at h
  ·cases h; rfl
  ·cases h
 ·intro E args C r h hC hlen
  simp only at h
  unfold SD49w128 at h
  split at h
  rotate_left
  ·cases h
  rename_i p0
  cases h
  simp only [lens] at hlen
  refine ⟨show 2≤44 from by decide,?_⟩
  refine Tri.sub (Sub.of_eq (show _=([(0,qr p0),(1,qi 128)],[]) from rfl)) ?_
  refine sr [] none [0,1] [] (TT∧True)
    ([(0,qr p0),(1,qi 128)],[])
    16 (⟨tt,trivial⟩) ?_
  refine sr [] none [5,0,1] [64] (TT∧(((((True∧(1=1))∧((0 < 1)∧((p0.length * 1≤140737488355328)∧(p0.length≤140737488355328))))∧(p0.length=p0.length * 1))∧True)∧((((((0 < 1)∧(1=1))∧True)∧((1 * 1≤16777216)∧(1=1)))∧True)∧((((((True∧(1=1))∧((0 < 1)∧(((p0.length + 1) * 1≤140737488355328)∧(p0.length + 1≤140737488355328))))∧(1=1 * 1))∧((1=1)∧(0 + p0.length * 1=p0.length)))∧True)∧(TT∧True)))))
    ([(5,.sc (.sl 64 0 (p0.length + 1) 1 none)),(0,qr p0),(1,qi 128)],[(64,.ints .u8 (p0.length + 1) (p0 ++ [128]))])
    96 (⟨tt,⟨⟨⟨⟨⟨trivial,(rfl)⟩,⟨(by omega),⟨(by omega),(by omega)⟩⟩⟩,(by omega)⟩,trivial⟩,⟨⟨⟨⟨⟨(by omega),(rfl)⟩,trivial⟩,⟨(by omega),(rfl)⟩⟩,trivial⟩,⟨⟨⟨⟨⟨⟨trivial,(rfl)⟩,⟨(by omega),⟨(by omega),(by omega)⟩⟩⟩,(by omega)⟩,⟨(rfl),(by omega)⟩⟩,trivial⟩,⟨tt,trivial⟩⟩⟩⟩⟩) ?_
  refine Tri.seq ?_
  refine Tri.block ?_
  refine Tri.count 96 ((239 - p0.length % 128) % 128) (FD49w128l0) (p0.length + 1,p0 ++ [128]) (fun k0 z0 => z0.1=(p0.length + 1) + 1 * k0) (fun k0 z0 => ([(5,.sc (.sl 64 0 z0.1 1 none)),(0,qr p0),(1,qi 128)],[(64,.ints .u8 z0.1 z0.2)])) (by simp) (Sub.of_eq (by kernel_rfl)) ?_
  intro k0 z0 hk0 hz0 hJ0
  refine Tri.seq ?_
  refine sr [(14,.i .i64 ((z0.1 % 128:Nat):Int))] none [19,5,0,1] [64] (TT∧(TT∧(TT∧(((128 ≠ (0:Int))∧((iRem ((z0.1:Nat):Int) 128)=((z0.1 % 128:Nat):Int)))∧(TT∧(TT∧(((8 ≠ (0:Int))∧True)∧(TT∧(TT∧True)))))))))
    ([(19,.sc (.b ((((z0.1 % 128:Nat):Int):Int) != 112))),(5,.sc (.sl 64 0 z0.1 1 none)),(0,qr p0),(1,qi 128)],[(64,.ints .u8 z0.1 z0.2)])
    240 (⟨tt,⟨tt,⟨tt,⟨⟨(by omega),(iRem_nat (a:=z0.1) (b:=128))⟩,⟨tt,⟨tt,⟨⟨(by omega),trivial⟩,⟨tt,⟨tt,trivial⟩⟩⟩⟩⟩⟩⟩⟩⟩) ?_
  refine Tri.cond (x:=((((z0.1 % 128:Nat):Int):Int) != 112)) (by kernel_rfl) (fun h1 => ?_) (fun h1 => ?_)
  ·
   have h1':=ne_true_i h1
   refine Tri.skip ?_
   change Tri _ _ _ _ _ _
   refine Tri.block ?_
   refine rr [] none [5,0,1] [272] (TT∧((((((0 < 1)∧(1=1))∧True)∧((1 * 1≤16777216)∧(1=1)))∧True)∧((((((True∧(1=1))∧((0 < 1)∧(((z0.1 + 1) * 1≤140737488355328)∧(z0.1 + 1≤140737488355328))))∧(1=1 * 1))∧((1=1)∧(0 + z0.1 * 1=z0.1)))∧True)∧(TT∧True))))
     ([(5,.sc (.sl 272 0 (z0.1 + 1) 1 none)),(0,qr p0),(1,qi 128)],[(272,.ints .u8 (z0.1 + 1) (z0.2 ++ [0]))])
     304 (⟨tt,⟨⟨⟨⟨⟨(by omega),(rfl)⟩,trivial⟩,⟨(by omega),(rfl)⟩⟩,trivial⟩,⟨⟨⟨⟨⟨⟨trivial,(rfl)⟩,⟨(by omega),⟨(by omega),(by omega)⟩⟩⟩,(by omega)⟩,⟨(rfl),(by omega)⟩⟩,trivial⟩,⟨tt,trivial⟩⟩⟩⟩) ?_
   repeat (refine blkP_normal ?_)
   refine countP_normal (by have h9:=ne_true_i h1; omega) (show z0.1 + 1=(p0.length + 1) + 1 * (k0 + 1) by omega) ?_
   exact Sub.ren (ns:=[(272,64)]) (kf:=[5,0,1]) (by kernel_rfl) (by kernel_rfl)
  ·
   have h1':=ne_false_i h1
   refine Tri.exit ?_
   have hend0:k0=((239 - p0.length % 128) % 128):=by (have h9:=ne_false_i h1; omega)
   subst hend0; subst hz0
   change Tri _ _ _ _ _ _
   refine sr [] none [5,0] [304] (TT∧(TT∧(((8 ≠ (0:Int))∧True)∧(TT∧((((((((((0:Int)≤8)∧(8≤(140737488355328:Int)))∧(((1:Nat):Int) * 8≤281474976710656))∧(1=1))∧((0 < 1)∧(((((itr (FD49w128l0) ((239 - p0.length % 128) % 128) (p0.length + 1,p0 ++ [128])).1) + 8) * 1≤140737488355328)∧(((itr (FD49w128l0) ((239 - p0.length % 128) % 128) (p0.length + 1,p0 ++ [128])).1) + 8≤140737488355328))))∧(8=8 * 1))∧((1=1)∧(0 + ((itr (FD49w128l0) ((239 - p0.length % 128) % 128) (p0.length + 1,p0 ++ [128])).1) * 1=(itr (FD49w128l0) ((239 - p0.length % 128) % 128) (p0.length + 1,p0 ++ [128])).1)))∧True)∧(TT∧True))))))
     ([(5,.sc (.sl 304 0 (((itr (FD49w128l0) ((239 - p0.length % 128) % 128) (p0.length + 1,p0 ++ [128])).1) + 8) 1 none)),(0,qr p0)],[(304,.ints .u8 (((itr (FD49w128l0) ((239 - p0.length % 128) % 128) (p0.length + 1,p0 ++ [128])).1) + 8) (((itr (FD49w128l0) ((239 - p0.length % 128) % 128) (p0.length + 1,p0 ++ [128])).2) ++ (List.replicate 8 0)))])
     336 (⟨tt,⟨tt,⟨⟨(by omega),trivial⟩,⟨tt,⟨⟨⟨⟨⟨⟨⟨⟨(by omega),(by omega)⟩,(by omega)⟩,(rfl)⟩,⟨(by omega),⟨(by omega),(by omega)⟩⟩⟩,(by omega)⟩,⟨(rfl),(by omega)⟩⟩,trivial⟩,⟨tt,trivial⟩⟩⟩⟩⟩⟩) ?_
   refine Tri.seq ?_
   refine sr [] none [6,5,0] [304] (TT∧True)
     ([(6,qi 7),(5,.sc (.sl 304 0 (((itr (FD49w128l0) ((239 - p0.length % 128) % 128) (p0.length + 1,p0 ++ [128])).1) + 8) 1 none)),(0,qr p0)],[(304,.ints .u8 (((itr (FD49w128l0) ((239 - p0.length % 128) % 128) (p0.length + 1,p0 ++ [128])).1) + 8) (((itr (FD49w128l0) ((239 - p0.length % 128) % 128) (p0.length + 1,p0 ++ [128])).2) ++ (List.replicate 8 0)))])
     352 (⟨tt,trivial⟩) ?_
   refine Tri.block ?_
   refine Tri.count 352 8 (FD49w128l1 p0) (((itr (FD49w128l0) ((239 - p0.length % 128) % 128) (p0.length + 1,p0 ++ [128])).1) + 8,((itr (FD49w128l0) ((239 - p0.length % 128) % 128) (p0.length + 1,p0 ++ [128])).2) ++ (List.replicate 8 0)) (fun k1 z1 => z1.1=(((itr (FD49w128l0) ((239 - p0.length % 128) % 128) (p0.length + 1,p0 ++ [128])).1) + 8) + 1 * k1) (fun k1 z1 => ([(6,qi (((8:Nat):Int) - 1 - (k1:Int))),(5,.sc (.sl 304 0 z1.1 1 none)),(0,qr p0)],[(304,.ints .u8 z1.1 z1.2)])) (by simp) (Sub.of_eq (by kernel_rfl)) ?_
   intro k1 z1 hk1 hz1 hJ1
   refine Tri.seq ?_
   refine sr [] none [29,6,5,0] [304] (TT∧(TT∧True))
     ([(29,.sc (.b (decide (((((8:Nat):Int) - 1 - (k1:Int)):Int) ≥ 0)))),(6,qi (((8:Nat):Int) - 1 - (k1:Int))),(5,.sc (.sl 304 0 z1.1 1 none)),(0,qr p0)],[(304,.ints .u8 z1.1 z1.2)])
     384 (⟨tt,⟨tt,trivial⟩⟩) ?_
   refine Tri.cond (x:=(decide (((((8:Nat):Int) - 1 - (k1:Int)):Int) ≥ 0))) (by kernel_rfl) (fun h2 => ?_) (fun h2 => ?_)
   ·
    have h2':=of_decide_eq_true h2
    refine Tri.skip ?_
    change Tri _ _ _ _ _ _
    refine Tri.seq ?_
    refine Tri.block ?_
    refine rr [(38,.i .i64 ((8 * (8 - 1 - k1):Nat):Int))] none [5,6,0] [544] (TT∧(TT∧(TT∧(TT∧(TT∧(TT∧((True∧((iMul .i64 8 (((8:Nat):Int) - 1 - (k1:Int)))=((8 * (8 - 1 - k1):Nat):Int)))∧((((0:Int)≤((8 * (8 - 1 - k1):Nat):Int))∧True)∧(TT∧((((((0 < 1)∧(1=1))∧True)∧((1 * 1≤16777216)∧(1=1)))∧True)∧((((((True∧(1=1))∧((0 < 1)∧(((z1.1 + 1) * 1≤140737488355328)∧(z1.1 + 1≤140737488355328))))∧(1=1 * 1))∧((1=1)∧(0 + z1.1 * 1=z1.1)))∧True)∧(TT∧True))))))))))))
      ([(5,.sc (.sl 544 0 (z1.1 + 1) 1 none)),(6,qi (((8:Nat):Int) - 1 - (k1:Int))),(0,qr p0)],[(544,.ints .u8 (z1.1 + 1) (z1.2 ++ [(IntKind.wrap .u8 (iShr .u64 (iMul .u64 (IntKind.wrap .u64 (p0.length:Int)) 8) ((8 * (8 - 1 - k1):Nat):Int)))]))])
      576 (⟨tt,⟨tt,⟨tt,⟨tt,⟨tt,⟨tt,⟨⟨trivial,(by rw [dn_nat (by omega)]; exact iMul_nat (a:=8) (b:=8 - 1 - k1) (by omega))⟩,⟨⟨(by omega),trivial⟩,⟨tt,⟨⟨⟨⟨⟨(by omega),(rfl)⟩,trivial⟩,⟨(by omega),(rfl)⟩⟩,trivial⟩,⟨⟨⟨⟨⟨⟨trivial,(rfl)⟩,⟨(by omega),⟨(by omega),(by omega)⟩⟩⟩,(by omega)⟩,⟨(rfl),(by omega)⟩⟩,trivial⟩,⟨tt,trivial⟩⟩⟩⟩⟩⟩⟩⟩⟩⟩⟩⟩) ?_
    change Tri _ _ _ _ _ _
    refine rr [(31,.i .i64 (((8:Nat):Int) - 1 - ((k1 + 1:Nat):Int)))] none [6,5,0] [544] (TT∧((True∧((iSub .i64 (((8:Nat):Int) - 1 - (k1:Int)) 1)=(((8:Nat):Int) - 1 - ((k1 + 1:Nat):Int))))∧(TT∧True)))
      ([(6,qi (((8:Nat):Int) - 1 - ((k1 + 1:Nat):Int))),(5,.sc (.sl 544 0 (z1.1 + 1) 1 none)),(0,qr p0)],[(544,.ints .u8 (z1.1 + 1) (z1.2 ++ [(IntKind.wrap .u8 (iShr .u64 (iMul .u64 (IntKind.wrap .u64 (p0.length:Int)) 8) ((8 * (8 - 1 - k1):Nat):Int)))]))])
      624 (⟨tt,⟨⟨trivial,(iSub_dn (by omega) (by omega))⟩,⟨tt,trivial⟩⟩⟩) ?_
    repeat (refine blkP_normal ?_)
    refine countP_normal (by omega) (show z1.1 + 1=(((itr (FD49w128l0) ((239 - p0.length % 128) % 128) (p0.length + 1,p0 ++ [128])).1) + 8) + 1 * (k1 + 1) by omega) ?_
    exact Sub.ren (ns:=[(544,304)]) (kf:=[6,5,0]) (by kernel_rfl) (by kernel_rfl)
   ·
    have h2':=of_decide_eq_false h2
    refine Tri.exit ?_
    have hend1:k1=8:=by (have:=of_decide_eq_false h2; omega)
    subst hend1; subst hz1
    change Tri _ _ _ _ _ _
    refine sr [] none [4] [304] (TT∧(TT∧True))
      ([(4,.sc (.sl 304 0 ((itr (FD49w128l1 p0) 8 (((itr (FD49w128l0) ((239 - p0.length % 128) % 128) (p0.length + 1,p0 ++ [128])).1) + 8,((itr (FD49w128l0) ((239 - p0.length % 128) % 128) (p0.length + 1,p0 ++ [128])).2) ++ (List.replicate 8 0))).1) 1 none))],[(304,.ints .u8 ((itr (FD49w128l1 p0) 8 (((itr (FD49w128l0) ((239 - p0.length % 128) % 128) (p0.length + 1,p0 ++ [128])).1) + 8,((itr (FD49w128l0) ((239 - p0.length % 128) % 128) (p0.length + 1,p0 ++ [128])).2) ++ (List.replicate 8 0))).1) ((itr (FD49w128l1 p0) 8 (((itr (FD49w128l0) ((239 - p0.length % 128) % 128) (p0.length + 1,p0 ++ [128])).1) + 8,((itr (FD49w128l0) ((239 - p0.length % 128) % 128) (p0.length + 1,p0 ++ [128])).2) ++ (List.replicate 8 0))).2))])
      416 (⟨tt,⟨tt,trivial⟩⟩) ?_
    refine Tri.ret ?_
    repeat (first | refine thenP_ret ?_ | refine blkP_ret ?_ | refine countP_ret ?_ | refine joinP_ret ?_)
    exact endP.ret [(304,0)] TT (by kernel_rfl) (by kernel_rfl) (by kernel_rfl) tt
theorem nD49w128 (p0:List Int):FD49w128n0 p0=p0.length + 9 + (239 - p0.length % 128) % 128 + 8:=by
 have h0:∀ (k:Nat) (z:Nat × List Int),(itr FD49w128l0 k z).1=z.1 + k:=by
  intro k z
  induction k with
  | zero => rw [itr_zero]; rfl
  | succ k ih => rw [itr_succ]; show (itr FD49w128l0 k z).1 + 1=_; rw [ih]; omega
 have h1:∀ (k:Nat) (z:Nat × List Int),(itr (FD49w128l1 p0) k z).1=z.1 + k:=by
  intro k z
  induction k with
  | zero => rw [itr_zero]; rfl
  | succ k ih => rw [itr_succ]; show (itr (FD49w128l1 p0) k z).1 + 1=_; rw [ih]; omega
 unfold FD49w128n0
 rw [h1,h0]
 omega
noncomputable def FD35l1 (p0:List Int) (k0:Nat) (k1:Nat) (z1:List Int):List Int :=
 z1.set (k1 / 8) (iOr .u64 (iShl .u64 (z1.getD (k1 / 8) 0) 8) (IntKind.wrap .u64 ((FD49w128 p0).getD (adr (0 + (128 * k0)) k1 1) 0)))
noncomputable def FD35l2 (k2:Nat) (z2:List Int):List Int :=
 z2.set (k2 + 16) (iAdd .u64 (iAdd .u64 (iAdd .u64 (z2.getD ((k2 + 16) - 16) 0) (z2.getD ((k2 + 16) - 7) 0)) (iXor .u64 (iXor .u64 (FD51 (z2.getD ((k2 + 16) - 15) 0) 63) (FD51 (z2.getD ((k2 + 16) - 15) 0) 56)) (iShr .u64 (z2.getD ((k2 + 16) - 15) 0) 7))) (iXor .u64 (iXor .u64 (FD51 (z2.getD ((k2 + 16) - 2) 0) 45) (FD51 (z2.getD ((k2 + 16) - 2) 0) 3)) (iShr .u64 (z2.getD ((k2 + 16) - 2) 0) 6)))
noncomputable def FD35l3 (p0:List Int) (k0:Nat) (k3:Nat) (z3:Int × Int × Int × Int × Int × Int × Int × Int):Int × Int × Int × Int × Int × Int × Int × Int :=
 (z3.2.1,z3.2.2.1,z3.2.2.2.1,(iAdd .u64 z3.2.2.2.2.1 (iAdd .u64 (iAdd .u64 (iAdd .u64 (iAdd .u64 z3.1 (iXor .u64 (iXor .u64 (FD51 z3.2.2.2.1 50) (FD51 z3.2.2.2.1 46)) (FD51 z3.2.2.2.1 23))) (iXor .u64 (iAnd .u64 z3.2.2.2.1 z3.2.2.1) (iAnd .u64 (iNot .u64 z3.2.2.2.1) z3.2.1))) (gSteps.getD (0 + k3) 0)) ((itr (FD35l2) 64 (itr (FD35l1 p0 k0) 128 [0,0,0,0,0,0,0,0,0,0,0,0,0,0,0,0,0,0,0,0,0,0,0,0,0,0,0,0,0,0,0,0,0,0,0,0,0,0,0,0,0,0,0,0,0,0,0,0,0,0,0,0,0,0,0,0,0,0,0,0,0,0,0,0,0,0,0,0,0,0,0,0,0,0,0,0,0,0,0,0])).getD k3 0))),z3.2.2.2.2.2.1,z3.2.2.2.2.2.2.1,z3.2.2.2.2.2.2.2,(iAdd .u64 (iAdd .u64 (iAdd .u64 (iAdd .u64 (iAdd .u64 z3.1 (iXor .u64 (iXor .u64 (FD51 z3.2.2.2.1 50) (FD51 z3.2.2.2.1 46)) (FD51 z3.2.2.2.1 23))) (iXor .u64 (iAnd .u64 z3.2.2.2.1 z3.2.2.1) (iAnd .u64 (iNot .u64 z3.2.2.2.1) z3.2.1))) (gSteps.getD (0 + k3) 0)) ((itr (FD35l2) 64 (itr (FD35l1 p0 k0) 128 [0,0,0,0,0,0,0,0,0,0,0,0,0,0,0,0,0,0,0,0,0,0,0,0,0,0,0,0,0,0,0,0,0,0,0,0,0,0,0,0,0,0,0,0,0,0,0,0,0,0,0,0,0,0,0,0,0,0,0,0,0,0,0,0,0,0,0,0,0,0,0,0,0,0,0,0,0,0,0,0])).getD k3 0)) (iAdd .u64 (iXor .u64 (iXor .u64 (FD51 z3.2.2.2.2.2.2.2 36) (FD51 z3.2.2.2.2.2.2.2 30)) (FD51 z3.2.2.2.2.2.2.2 25)) (iXor .u64 (iXor .u64 (iAnd .u64 z3.2.2.2.2.2.2.2 z3.2.2.2.2.2.2.1) (iAnd .u64 z3.2.2.2.2.2.2.2 z3.2.2.2.2.2.1)) (iAnd .u64 z3.2.2.2.2.2.2.1 z3.2.2.2.2.2.1)))))
noncomputable def FD35l4 (p0:List Int) (k0:Nat) (z0:List Int) (k4:Nat) (z4:List Int):List Int :=
 z4.set k4 (iAdd .u64 (z4.getD k4 0) ([(itr (FD35l3 p0 k0) 80 (z0.getD 7 0,z0.getD 6 0,z0.getD 5 0,z0.getD 4 0,z0.getD 3 0,z0.getD 2 0,z0.getD 1 0,z0.getD 0 0)).2.2.2.2.2.2.2,(itr (FD35l3 p0 k0) 80 (z0.getD 7 0,z0.getD 6 0,z0.getD 5 0,z0.getD 4 0,z0.getD 3 0,z0.getD 2 0,z0.getD 1 0,z0.getD 0 0)).2.2.2.2.2.2.1,(itr (FD35l3 p0 k0) 80 (z0.getD 7 0,z0.getD 6 0,z0.getD 5 0,z0.getD 4 0,z0.getD 3 0,z0.getD 2 0,z0.getD 1 0,z0.getD 0 0)).2.2.2.2.2.1,(itr (FD35l3 p0 k0) 80 (z0.getD 7 0,z0.getD 6 0,z0.getD 5 0,z0.getD 4 0,z0.getD 3 0,z0.getD 2 0,z0.getD 1 0,z0.getD 0 0)).2.2.2.2.1,(itr (FD35l3 p0 k0) 80 (z0.getD 7 0,z0.getD 6 0,z0.getD 5 0,z0.getD 4 0,z0.getD 3 0,z0.getD 2 0,z0.getD 1 0,z0.getD 0 0)).2.2.2.1,(itr (FD35l3 p0 k0) 80 (z0.getD 7 0,z0.getD 6 0,z0.getD 5 0,z0.getD 4 0,z0.getD 3 0,z0.getD 2 0,z0.getD 1 0,z0.getD 0 0)).2.2.1,(itr (FD35l3 p0 k0) 80 (z0.getD 7 0,z0.getD 6 0,z0.getD 5 0,z0.getD 4 0,z0.getD 3 0,z0.getD 2 0,z0.getD 1 0,z0.getD 0 0)).2.1,(itr (FD35l3 p0 k0) 80 (z0.getD 7 0,z0.getD 6 0,z0.getD 5 0,z0.getD 4 0,z0.getD 3 0,z0.getD 2 0,z0.getD 1 0,z0.getD 0 0)).1].getD k4 0))
noncomputable def FD35l0 (p0:List Int) (k0:Nat) (z0:List Int):List Int :=
 (itr (FD35l4 p0 k0 z0) 8 z0)
noncomputable def FD35l5 (p0:List Int) (k5:Nat) (z5:List Int):List Int :=
 z5.set k5 (IntKind.wrap .u8 (iShr .u64 ((itr (FD35l0 p0) ((FD49w128n0 p0) / 128) ((gStarts.drop 0).take 8)).getD (k5 / 8) 0) ((56 - (8 * (k5 % 8)):Nat):Int)))
noncomputable def FD35 (p0:List Int):List Int :=
 (itr (FD35l5 p0) 64 [0,0,0,0,0,0,0,0,0,0,0,0,0,0,0,0,0,0,0,0,0,0,0,0,0,0,0,0,0,0,0,0,0,0,0,0,0,0,0,0,0,0,0,0,0,0,0,0,0,0,0,0,0,0,0,0,0,0,0,0,0,0,0,0])
noncomputable def SD35:List AV→Option (Prop × Ret)
 | [.sc (.ro .u8 p0)] => some (p0.length≤100000000,⟨.ints .u8 64 (FD35 p0),[]⟩)
 | _ => none
noncomputable def BD35:Bs:={ P:=Go.Proofs.Tryd.prog,G:=gD,tab:=tabOf [(46,⟨[.ro .u8,.val],1,SD49w128⟩),(47,⟨[.val,.val],0,SD51⟩)],n:=208 }
theorem BD35.ok:BD35.Ok:=⟨tabOk (P:=Go.Proofs.Tryd.prog) (G:=gD) (l:=[(46,⟨[.ro .u8,.val],1,SD49w128⟩),(47,⟨[.val,.val],0,SD51⟩)]) (And.intro KD49w128 (And.intro KD51 True.intro)),mixed⟩
theorem KD35:Known Go.Proofs.Tryd.prog gD 16 ⟨[.ro .u8],0,SD35⟩:=by
 refine Known.walk (B:=BD35) (fn:=Go.Proofs.Tryd.f16) BD35.ok (by kernel_rfl) rfl (by kernel_rfl) (by kernel_rfl) (by decide) ?_ ?_
 ·intro vs C r h
  simp only at h
  unfold SD35 at h
  split at h
  ·cases h; rfl
  ·cases h
 ·intro E args C r h hC hlen
  simp only at h
  unfold SD35 at h
  split at h
  rotate_left
  ·cases h
  rename_i p0
  cases h
  simp only [lens] at hlen
  have hp:=nD49w128 p0
  have hg1:gStarts.length=8:=rfl
  have hg2:gSteps.length=80:=rfl
  refine ⟨show 1≤208 from by decide,?_⟩
  refine Tri.sub (Sub.of_eq (show _=([(0,qr p0)],[]) from rfl)) ?_
  refine sr [] none [2,0] [0] (TT∧True)
    ([(2,qp 0 0),(0,qr p0)],[(0,.ints .u8 64 [0,0,0,0,0,0,0,0,0,0,0,0,0,0,0,0,0,0,0,0,0,0,0,0,0,0,0,0,0,0,0,0,0,0,0,0,0,0,0,0,0,0,0,0,0,0,0,0,0,0,0,0,0,0,0,0,0,0,0,0,0,0,0,0])])
    16 (⟨tt,trivial⟩) ?_
  refine sr [] none [3,2,0] [32,0] (((0 + 8≤gStarts.length)∧True)∧(TT∧(((True∧(8=8))∧True)∧True)))
    ([(3,qp 32 0),(2,qp 0 0),(0,qr p0)],[(32,.ints .u64 8 ((gStarts.drop 0).take 8)),(0,.ints .u8 64 [0,0,0,0,0,0,0,0,0,0,0,0,0,0,0,0,0,0,0,0,0,0,0,0,0,0,0,0,0,0,0,0,0,0,0,0,0,0,0,0,0,0,0,0,0,0,0,0,0,0,0,0,0,0,0,0,0,0,0,0,0,0,0,0])])
    64 (⟨⟨(by omega),trivial⟩,⟨tt,⟨⟨⟨trivial,(rfl)⟩,trivial⟩,trivial⟩⟩⟩) ?_
  refine Tri.seq ?_
  refine sr [] none [4,3,2] [80,32,0] (TT∧(((True∧(p0.length≤1000000000))∧True)∧(TT∧True)))
    ([(4,.sc (.sl 80 0 (FD49w128n0 p0) 1 none)),(3,qp 32 0),(2,qp 0 0)],[(80,.ints .u8 (FD49w128n0 p0) (FD49w128 p0)),(32,.ints .u64 8 ((gStarts.drop 0).take 8)),(0,.ints .u8 64 [0,0,0,0,0,0,0,0,0,0,0,0,0,0,0,0,0,0,0,0,0,0,0,0,0,0,0,0,0,0,0,0,0,0,0,0,0,0,0,0,0,0,0,0,0,0,0,0,0,0,0,0,0,0,0,0,0,0,0,0,0,0,0,0])])
    112 (⟨tt,⟨⟨⟨trivial,(by omega)⟩,trivial⟩,⟨tt,trivial⟩⟩⟩) ?_
  refine Tri.block ?_
  refine Tri.count 112 ((FD49w128n0 p0) / 128) (FD35l0 p0) ((gStarts.drop 0).take 8) (fun k0 z0 => True) (fun k0 z0 => ([(4,.sc (.sl 80 (0 + (128 * k0)) ((FD49w128n0 p0) - (128 * k0)) 1 none)),(3,qp 32 0),(2,qp 0 0)],[(80,.ints .u8 (FD49w128n0 p0) (FD49w128 p0)),(32,.ints .u64 8 z0),(0,.ints .u8 64 [0,0,0,0,0,0,0,0,0,0,0,0,0,0,0,0,0,0,0,0,0,0,0,0,0,0,0,0,0,0,0,0,0,0,0,0,0,0,0,0,0,0,0,0,0,0,0,0,0,0,0,0,0,0,0,0,0,0,0,0,0,0,0,0])])) trivial (Sub.of_eq (by kernel_rfl)) ?_
  intro k0 z0 hk0 hz0 hJ0
  refine Tri.seq ?_
  refine sr [] none [30,4,3,2] [80,32,0] (TT∧(TT∧(TT∧True)))
    ([(30,.sc (.b (decide (((((FD49w128n0 p0) - (128 * k0):Nat):Int):Int) > 0)))),(4,.sc (.sl 80 (0 + (128 * k0)) ((FD49w128n0 p0) - (128 * k0)) 1 none)),(3,qp 32 0),(2,qp 0 0)],[(80,.ints .u8 (FD49w128n0 p0) (FD49w128 p0)),(32,.ints .u64 8 z0),(0,.ints .u8 64 [0,0,0,0,0,0,0,0,0,0,0,0,0,0,0,0,0,0,0,0,0,0,0,0,0,0,0,0,0,0,0,0,0,0,0,0,0,0,0,0,0,0,0,0,0,0,0,0,0,0,0,0,0,0,0,0,0,0,0,0,0,0,0,0])])
    160 (⟨tt,⟨tt,⟨tt,trivial⟩⟩⟩) ?_
  refine Tri.cond (x:=(decide (((((FD49w128n0 p0) - (128 * k0):Nat):Int):Int) > 0))) (by kernel_rfl) (fun h1 => ?_) (fun h1 => ?_)
  ·
   have h1':=of_decide_eq_true h1
   refine Tri.skip ?_
   change Tri _ _ _ _ _ _
   refine Tri.seq ?_
   refine Tri.block ?_
   refine sr [] none [5,4,3,2] [160,80,32,0] (TT∧True)
     ([(5,qp 160 0),(4,.sc (.sl 80 (0 + (128 * k0)) ((FD49w128n0 p0) - (128 * k0)) 1 none)),(3,qp 32 0),(2,qp 0 0)],[(160,.ints .u64 80 [0,0,0,0,0,0,0,0,0,0,0,0,0,0,0,0,0,0,0,0,0,0,0,0,0,0,0,0,0,0,0,0,0,0,0,0,0,0,0,0,0,0,0,0,0,0,0,0,0,0,0,0,0,0,0,0,0,0,0,0,0,0,0,0,0,0,0,0,0,0,0,0,0,0,0,0,0,0,0,0]),(80,.ints .u8 (FD49w128n0 p0) (FD49w128 p0)),(32,.ints .u64 8 z0),(0,.ints .u8 64 [0,0,0,0,0,0,0,0,0,0,0,0,0,0,0,0,0,0,0,0,0,0,0,0,0,0,0,0,0,0,0,0,0,0,0,0,0,0,0,0,0,0,0,0,0,0,0,0,0,0,0,0,0,0,0,0,0,0,0,0,0,0,0,0])])
     176 (⟨tt,trivial⟩) ?_
   refine Tri.seq ?_
   refine sr [] none [33,5,4,3,2] [160,80,32,0] (TT∧True)
     ([(33,qi 0),(5,qp 160 0),(4,.sc (.sl 80 (0 + (128 * k0)) ((FD49w128n0 p0) - (128 * k0)) 1 none)),(3,qp 32 0),(2,qp 0 0)],[(160,.ints .u64 80 [0,0,0,0,0,0,0,0,0,0,0,0,0,0,0,0,0,0,0,0,0,0,0,0,0,0,0,0,0,0,0,0,0,0,0,0,0,0,0,0,0,0,0,0,0,0,0,0,0,0,0,0,0,0,0,0,0,0,0,0,0,0,0,0,0,0,0,0,0,0,0,0,0,0,0,0,0,0,0,0]),(80,.ints .u8 (FD49w128n0 p0) (FD49w128 p0)),(32,.ints .u64 8 z0),(0,.ints .u8 64 [0,0,0,0,0,0,0,0,0,0,0,0,0,0,0,0,0,0,0,0,0,0,0,0,0,0,0,0,0,0,0,0,0,0,0,0,0,0,0,0,0,0,0,0,0,0,0,0,0,0,0,0,0,0,0,0,0,0,0,0,0,0,0,0])])
     192 (⟨tt,trivial⟩) ?_
   refine Tri.block ?_
   refine Tri.count 192 128 (FD35l1 p0 k0) [0,0,0,0,0,0,0,0,0,0,0,0,0,0,0,0,0,0,0,0,0,0,0,0,0,0,0,0,0,0,0,0,0,0,0,0,0,0,0,0,0,0,0,0,0,0,0,0,0,0,0,0,0,0,0,0,0,0,0,0,0,0,0,0,0,0,0,0,0,0,0,0,0,0,0,0,0,0,0,0] (fun k1 z1 => True) (fun k1 z1 => ([(33,qi (k1:Int)),(5,qp 160 0),(4,.sc (.sl 80 (0 + (128 * k0)) ((FD49w128n0 p0) - (128 * k0)) 1 none)),(3,qp 32 0),(2,qp 0 0)],[(160,.ints .u64 80 z1),(80,.ints .u8 (FD49w128n0 p0) (FD49w128 p0)),(32,.ints .u64 8 z0),(0,.ints .u8 64 [0,0,0,0,0,0,0,0,0,0,0,0,0,0,0,0,0,0,0,0,0,0,0,0,0,0,0,0,0,0,0,0,0,0,0,0,0,0,0,0,0,0,0,0,0,0,0,0,0,0,0,0,0,0,0,0,0,0,0,0,0,0,0,0])])) trivial (Sub.of_eq (by kernel_rfl)) ?_
   intro k1 z1 hk1 hz1 hJ1
   refine sr [] none [34,33,5,4,3,2] [160,80,32,0] (TT∧True)
     ([(34,.sc (.b (decide (((k1:Int):Int) < 128)))),(33,qi (k1:Int)),(5,qp 160 0),(4,.sc (.sl 80 (0 + (128 * k0)) ((FD49w128n0 p0) - (128 * k0)) 1 none)),(3,qp 32 0),(2,qp 0 0)],[(160,.ints .u64 80 z1),(80,.ints .u8 (FD49w128n0 p0) (FD49w128 p0)),(32,.ints .u64 8 z0),(0,.ints .u8 64 [0,0,0,0,0,0,0,0,0,0,0,0,0,0,0,0,0,0,0,0,0,0,0,0,0,0,0,0,0,0,0,0,0,0,0,0,0,0,0,0,0,0,0,0,0,0,0,0,0,0,0,0,0,0,0,0,0,0,0,0,0,0,0,0])])
     208 (⟨tt,trivial⟩) ?_
   refine Tri.seq ?_
   refine Tri.cond (x:=(decide (((k1:Int):Int) < 128))) (by kernel_rfl) (fun h2 => ?_) (fun h2 => ?_)
   ·
    have h2':=of_decide_eq_true h2
    refine Tri.skip ?_
    change Tri _ _ _ _ _ _
    refine Tri.seq ?_
    refine Tri.block ?_
    refine sr [] none [6,33,5,4,3,2] [160,80,32,0] (TT∧(TT∧True))
      ([(6,qi (k1:Int)),(33,qi (k1:Int)),(5,qp 160 0),(4,.sc (.sl 80 (0 + (128 * k0)) ((FD49w128n0 p0) - (128 * k0)) 1 none)),(3,qp 32 0),(2,qp 0 0)],[(160,.ints .u64 80 z1),(80,.ints .u8 (FD49w128n0 p0) (FD49w128 p0)),(32,.ints .u64 8 z0),(0,.ints .u8 64 [0,0,0,0,0,0,0,0,0,0,0,0,0,0,0,0,0,0,0,0,0,0,0,0,0,0,0,0,0,0,0,0,0,0,0,0,0,0,0,0,0,0,0,0,0,0,0,0,0,0,0,0,0,0,0,0,0,0,0,0,0,0,0,0])])
      240 (⟨tt,⟨tt,trivial⟩⟩) ?_
    refine Tri.len 160 rfl (fun hl3 => ?_)
    refine Tri.len 80 rfl (fun hl4 => ?_)
    refine Tri.len 32 rfl (fun hl5 => ?_)
    refine rr [(37,.i .i64 ((k1 / 8:Nat):Int)),(39,.i .i64 ((k1 / 8:Nat):Int))] (some [0,1,0,4,12,28,60,0,0,384,896,1920,4092,8191,16383]) [33,5,4,3,2] [160,80,32,0] (TT∧(((8 ≠ (0:Int))∧((iQuo .i64 (k1:Int) 8)=((k1 / 8:Nat):Int)))∧(TT∧(((8 ≠ (0:Int))∧((iQuo .i64 (k1:Int) 8)=((k1 / 8:Nat):Int)))∧((((0:Int)≤((k1 / 8:Nat):Int)∧((k1 / 8:Nat):Int) < ((80:Nat):Int))∧True)∧(((k1 / 8 < 80)∧True)∧((((0:Int)≤8)∧True)∧(TT∧(TT∧((((0:Int)≤(k1:Int)∧(k1:Int) < (((FD49w128n0 p0) - (128 * k0):Nat):Int))∧True)∧(((adr (0 + (128 * k0)) k1 1 < (FD49w128n0 p0))∧True)∧(TT∧(TT∧((((0:Int)≤((k1 / 8:Nat):Int)∧((k1 / 8:Nat):Int) < ((80:Nat):Int))∧True)∧((((k1 / 8 < 80)∧(1=1))∧True)∧True)))))))))))))))
      ([(33,qi (k1:Int)),(5,qp 160 0),(4,.sc (.sl 80 (0 + (128 * k0)) ((FD49w128n0 p0) - (128 * k0)) 1 none)),(3,qp 32 0),(2,qp 0 0)],[(160,.ints .u64 80 (z1.set (k1 / 8) (iOr .u64 (iShl .u64 (z1.getD (k1 / 8) 0) 8) (IntKind.wrap .u64 ((FD49w128 p0).getD (adr (0 + (128 * k0)) k1 1) 0))))),(80,.ints .u8 (FD49w128n0 p0) (FD49w128 p0)),(32,.ints .u64 8 z0),(0,.ints .u8 64 [0,0,0,0,0,0,0,0,0,0,0,0,0,0,0,0,0,0,0,0,0,0,0,0,0,0,0,0,0,0,0,0,0,0,0,0,0,0,0,0,0,0,0,0,0,0,0,0,0,0,0,0,0,0,0,0,0,0,0,0,0,0,0,0])])
      480 (⟨tt,⟨⟨(by omega),(iQuo_nat (a:=k1) (b:=8) (by omega))⟩,⟨tt,⟨⟨(by omega),(iQuo_nat (a:=k1) (b:=8) (by omega))⟩,⟨⟨(by omega),trivial⟩,⟨⟨(by omega),trivial⟩,⟨⟨(by omega),trivial⟩,⟨tt,⟨tt,⟨⟨(by omega),trivial⟩,⟨⟨(by first | omega | (rw [adr_eq]; omega) | exact iAnd_nn _ _ | exact iSub_nn _ _ | exact part1_le (by omega) (by first | omega | (simp only [List.length_append]; omega)) | (rw [iMul_i64 (by omega) (by omega)]; omega) | decide),trivial⟩,⟨tt,⟨tt,⟨⟨(by omega),trivial⟩,⟨⟨⟨(by omega),(rfl)⟩,trivial⟩,trivial⟩⟩⟩⟩⟩⟩⟩⟩⟩⟩⟩⟩⟩⟩⟩) ?_
    change Tri _ _ _ _ _ _
    refine rr [(50,.i .i64 ((k1 + 1:Nat):Int))] none [33,5,4,3,2] [160,80,32,0] ((True∧((iAdd .i64 (k1:Int) 1)=((k1 + 1:Nat):Int)))∧(TT∧True))
      ([(33,qi ((k1 + 1:Nat):Int)),(5,qp 160 0),(4,.sc (.sl 80 (0 + (128 * k0)) ((FD49w128n0 p0) - (128 * k0)) 1 none)),(3,qp 32 0),(2,qp 0 0)],[(160,.ints .u64 80 (z1.set (k1 / 8) (iOr .u64 (iShl .u64 (z1.getD (k1 / 8) 0) 8) (IntKind.wrap .u64 ((FD49w128 p0).getD (adr (0 + (128 * k0)) k1 1) 0))))),(80,.ints .u8 (FD49w128n0 p0) (FD49w128 p0)),(32,.ints .u64 8 z0),(0,.ints .u8 64 [0,0,0,0,0,0,0,0,0,0,0,0,0,0,0,0,0,0,0,0,0,0,0,0,0,0,0,0,0,0,0,0,0,0,0,0,0,0,0,0,0,0,0,0,0,0,0,0,0,0,0,0,0,0,0,0,0,0,0,0,0,0,0,0])])
      512 (⟨⟨trivial,(iAdd_nat (a:=k1) (b:=1) (by omega))⟩,⟨tt,trivial⟩⟩) ?_
    repeat (refine blkP_normal ?_)
    refine countP_normal (by omega) trivial ?_
    exact Sub.ren (ns:=[(160,160),(80,80),(32,32),(0,0)]) (kf:=[33,5,4,3,2]) (by kernel_rfl) (by kernel_rfl)
   ·
    have h2':=of_decide_eq_false h2
    refine Tri.exit ?_
    have hend1:k1=128:=by (have:=of_decide_eq_false h2; omega)
    subst hend1; subst hz1
    change Tri _ _ _ _ _ _
    refine Tri.seq ?_
    refine sr [] none [7,5,4,3,2] [160,80,32,0] (TT∧True)
      ([(7,qi 16),(5,qp 160 0),(4,.sc (.sl 80 (0 + (128 * k0)) ((FD49w128n0 p0) - (128 * k0)) 1 none)),(3,qp 32 0),(2,qp 0 0)],[(160,.ints .u64 80 (itr (FD35l1 p0 k0) 128 [0,0,0,0,0,0,0,0,0,0,0,0,0,0,0,0,0,0,0,0,0,0,0,0,0,0,0,0,0,0,0,0,0,0,0,0,0,0,0,0,0,0,0,0,0,0,0,0,0,0,0,0,0,0,0,0,0,0,0,0,0,0,0,0,0,0,0,0,0,0,0,0,0,0,0,0,0,0,0,0])),(80,.ints .u8 (FD49w128n0 p0) (FD49w128 p0)),(32,.ints .u64 8 z0),(0,.ints .u8 64 [0,0,0,0,0,0,0,0,0,0,0,0,0,0,0,0,0,0,0,0,0,0,0,0,0,0,0,0,0,0,0,0,0,0,0,0,0,0,0,0,0,0,0,0,0,0,0,0,0,0,0,0,0,0,0,0,0,0,0,0,0,0,0,0])])
      224 (⟨tt,trivial⟩) ?_
    refine Tri.block ?_
    refine Tri.count 224 64 (FD35l2) (itr (FD35l1 p0 k0) 128 [0,0,0,0,0,0,0,0,0,0,0,0,0,0,0,0,0,0,0,0,0,0,0,0,0,0,0,0,0,0,0,0,0,0,0,0,0,0,0,0,0,0,0,0,0,0,0,0,0,0,0,0,0,0,0,0,0,0,0,0,0,0,0,0,0,0,0,0,0,0,0,0,0,0,0,0,0,0,0,0]) (fun k2 z2 => True) (fun k2 z2 => ([(7,qi ((k2 + 16:Nat):Int)),(5,qp 160 0),(4,.sc (.sl 80 (0 + (128 * k0)) ((FD49w128n0 p0) - (128 * k0)) 1 none)),(3,qp 32 0),(2,qp 0 0)],[(160,.ints .u64 80 z2),(80,.ints .u8 (FD49w128n0 p0) (FD49w128 p0)),(32,.ints .u64 8 z0),(0,.ints .u8 64 [0,0,0,0,0,0,0,0,0,0,0,0,0,0,0,0,0,0,0,0,0,0,0,0,0,0,0,0,0,0,0,0,0,0,0,0,0,0,0,0,0,0,0,0,0,0,0,0,0,0,0,0,0,0,0,0,0,0,0,0,0,0,0,0])])) trivial (Sub.of_eq (by kernel_rfl)) ?_
    intro k2 z2 hk2 hz2 hJ2
    refine Tri.seq ?_
    refine sr [] none [52,7,5,4,3,2] [160,80,32,0] (TT∧(TT∧True))
      ([(52,.sc (.b (decide ((((k2 + 16:Nat):Int):Int) < 80)))),(7,qi ((k2 + 16:Nat):Int)),(5,qp 160 0),(4,.sc (.sl 80 (0 + (128 * k0)) ((FD49w128n0 p0) - (128 * k0)) 1 none)),(3,qp 32 0),(2,qp 0 0)],[(160,.ints .u64 80 z2),(80,.ints .u8 (FD49w128n0 p0) (FD49w128 p0)),(32,.ints .u64 8 z0),(0,.ints .u8 64 [0,0,0,0,0,0,0,0,0,0,0,0,0,0,0,0,0,0,0,0,0,0,0,0,0,0,0,0,0,0,0,0,0,0,0,0,0,0,0,0,0,0,0,0,0,0,0,0,0,0,0,0,0,0,0,0,0,0,0,0,0,0,0,0])])
      256 (⟨tt,⟨tt,trivial⟩⟩) ?_
    refine Tri.cond (x:=(decide ((((k2 + 16:Nat):Int):Int) < 80))) (by kernel_rfl) (fun h6 => ?_) (fun h6 => ?_)
    ·
     have h6':=of_decide_eq_true h6
     refine Tri.skip ?_
     change Tri _ _ _ _ _ _
     refine Tri.seq ?_
     refine Tri.block ?_
     refine sr [(56,.i .i64 (((k2 + 16) - 15:Nat):Int)),(60,.i .i64 (((k2 + 16) - 2:Nat):Int))] (some [0,1,3,7,0,16,48,112,15,511]) [9,8,7,5,4,3,2] [160,80,32,0] (TT∧((True∧((iSub .i64 ((k2 + 16:Nat):Int) 15)=(((k2 + 16) - 15:Nat):Int)))∧((((0:Int)≤(((k2 + 16) - 15:Nat):Int)∧(((k2 + 16) - 15:Nat):Int) < ((80:Nat):Int))∧True)∧((((k2 + 16) - 15 < 80)∧True)∧(TT∧((True∧((iSub .i64 ((k2 + 16:Nat):Int) 2)=(((k2 + 16) - 2:Nat):Int)))∧((((0:Int)≤(((k2 + 16) - 2:Nat):Int)∧(((k2 + 16) - 2:Nat):Int) < ((80:Nat):Int))∧True)∧((((k2 + 16) - 2 < 80)∧True)∧(TT∧(TT∧True))))))))))
       ([(9,.sc (.i .u64 (z2.getD ((k2 + 16) - 2) 0))),(8,.sc (.i .u64 (z2.getD ((k2 + 16) - 15) 0))),(7,qi ((k2 + 16:Nat):Int)),(5,qp 160 0),(4,.sc (.sl 80 (0 + (128 * k0)) ((FD49w128n0 p0) - (128 * k0)) 1 none)),(3,qp 32 0),(2,qp 0 0)],[(160,.ints .u64 80 z2),(80,.ints .u8 (FD49w128n0 p0) (FD49w128 p0)),(32,.ints .u64 8 z0),(0,.ints .u8 64 [0,0,0,0,0,0,0,0,0,0,0,0,0,0,0,0,0,0,0,0,0,0,0,0,0,0,0,0,0,0,0,0,0,0,0,0,0,0,0,0,0,0,0,0,0,0,0,0,0,0,0,0,0,0,0,0,0,0,0,0,0,0,0,0])])
       416 (⟨tt,⟨⟨trivial,(iSub_nat (a:=k2 + 16) (b:=15) (by omega) (by omega))⟩,⟨⟨(by omega),trivial⟩,⟨⟨(by omega),trivial⟩,⟨tt,⟨⟨trivial,(iSub_nat (a:=k2 + 16) (b:=2) (by omega) (by omega))⟩,⟨⟨(by omega),trivial⟩,⟨⟨(by omega),trivial⟩,⟨tt,⟨tt,trivial⟩⟩⟩⟩⟩⟩⟩⟩⟩⟩) ?_
     refine rr [(65,.i .i64 (((k2 + 16) - 16:Nat):Int)),(69,.i .i64 (((k2 + 16) - 7:Nat):Int))] (some [0,0,2,6,14,0,32,96,224,510,0,1024,0,7168,15360,0,32768,130048,262142,0,539648,0,3685376,7879680,0,16777216,66599936,134217726,268435455,536870911]) [7,5,4,3,2] [160,80,32,0] (TT∧(TT∧((True∧((iSub .i64 ((k2 + 16:Nat):Int) 16)=(((k2 + 16) - 16:Nat):Int)))∧((((0:Int)≤(((k2 + 16) - 16:Nat):Int)∧(((k2 + 16) - 16:Nat):Int) < ((80:Nat):Int))∧True)∧((((k2 + 16) - 16 < 80)∧True)∧(TT∧((True∧((iSub .i64 ((k2 + 16:Nat):Int) 7)=(((k2 + 16) - 7:Nat):Int)))∧((((0:Int)≤(((k2 + 16) - 7:Nat):Int)∧(((k2 + 16) - 7:Nat):Int) < ((80:Nat):Int))∧True)∧((((k2 + 16) - 7 < 80)∧True)∧(TT∧(TT∧((TT∧True)∧(TT∧((TT∧True)∧(TT∧(TT∧((((0:Int)≤7)∧True)∧(TT∧(TT∧(TT∧((TT∧True)∧(TT∧((TT∧True)∧(TT∧(TT∧((((0:Int)≤6)∧True)∧(TT∧(TT∧((((0:Int)≤((k2 + 16:Nat):Int)∧((k2 + 16:Nat):Int) < ((80:Nat):Int))∧True)∧((((k2 + 16 < 80)∧(1=1))∧True)∧True))))))))))))))))))))))))))))))
       ([(7,qi ((k2 + 16:Nat):Int)),(5,qp 160 0),(4,.sc (.sl 80 (0 + (128 * k0)) ((FD49w128n0 p0) - (128 * k0)) 1 none)),(3,qp 32 0),(2,qp 0 0)],[(160,.ints .u64 80 (z2.set (k2 + 16) (iAdd .u64 (iAdd .u64 (iAdd .u64 (z2.getD ((k2 + 16) - 16) 0) (z2.getD ((k2 + 16) - 7) 0)) (iXor .u64 (iXor .u64 (FD51 (z2.getD ((k2 + 16) - 15) 0) 63) (FD51 (z2.getD ((k2 + 16) - 15) 0) 56)) (iShr .u64 (z2.getD ((k2 + 16) - 15) 0) 7))) (iXor .u64 (iXor .u64 (FD51 (z2.getD ((k2 + 16) - 2) 0) 45) (FD51 (z2.getD ((k2 + 16) - 2) 0) 3)) (iShr .u64 (z2.getD ((k2 + 16) - 2) 0) 6))))),(80,.ints .u8 (FD49w128n0 p0) (FD49w128 p0)),(32,.ints .u64 8 z0),(0,.ints .u8 64 [0,0,0,0,0,0,0,0,0,0,0,0,0,0,0,0,0,0,0,0,0,0,0,0,0,0,0,0,0,0,0,0,0,0,0,0,0,0,0,0,0,0,0,0,0,0,0,0,0,0,0,0,0,0,0,0,0,0,0,0,0,0,0,0])])
       896 (⟨tt,⟨tt,⟨⟨trivial,(iSub_nat (a:=k2 + 16) (b:=16) (by omega) (by omega))⟩,⟨⟨(by omega),trivial⟩,⟨⟨(by omega),trivial⟩,⟨tt,⟨⟨trivial,(iSub_nat (a:=k2 + 16) (b:=7) (by omega) (by omega))⟩,⟨⟨(by omega),trivial⟩,⟨⟨(by omega),trivial⟩,⟨tt,⟨tt,⟨⟨tt,trivial⟩,⟨tt,⟨⟨tt,trivial⟩,⟨tt,⟨tt,⟨⟨(by omega),trivial⟩,⟨tt,⟨tt,⟨tt,⟨⟨tt,trivial⟩,⟨tt,⟨⟨tt,trivial⟩,⟨tt,⟨tt,⟨⟨(by omega),trivial⟩,⟨tt,⟨tt,⟨⟨(by omega),trivial⟩,⟨⟨⟨(by omega),(rfl)⟩,trivial⟩,trivial⟩⟩⟩⟩⟩⟩⟩⟩⟩⟩⟩⟩⟩⟩⟩⟩⟩⟩⟩⟩⟩⟩⟩⟩⟩⟩⟩⟩⟩⟩) ?_
     change Tri _ _ _ _ _ _
     refine rr [(54,.i .i64 (((k2 + 16) + 1:Nat):Int))] none [7,5,4,3,2] [160,80,32,0] (TT∧((True∧((iAdd .i64 ((k2 + 16:Nat):Int) 1)=(((k2 + 16) + 1:Nat):Int)))∧(TT∧True)))
       ([(7,qi (((k2 + 16) + 1:Nat):Int)),(5,qp 160 0),(4,.sc (.sl 80 (0 + (128 * k0)) ((FD49w128n0 p0) - (128 * k0)) 1 none)),(3,qp 32 0),(2,qp 0 0)],[(160,.ints .u64 80 (z2.set (k2 + 16) (iAdd .u64 (iAdd .u64 (iAdd .u64 (z2.getD ((k2 + 16) - 16) 0) (z2.getD ((k2 + 16) - 7) 0)) (iXor .u64 (iXor .u64 (FD51 (z2.getD ((k2 + 16) - 15) 0) 63) (FD51 (z2.getD ((k2 + 16) - 15) 0) 56)) (iShr .u64 (z2.getD ((k2 + 16) - 15) 0) 7))) (iXor .u64 (iXor .u64 (FD51 (z2.getD ((k2 + 16) - 2) 0) 45) (FD51 (z2.getD ((k2 + 16) - 2) 0) 3)) (iShr .u64 (z2.getD ((k2 + 16) - 2) 0) 6))))),(80,.ints .u8 (FD49w128n0 p0) (FD49w128 p0)),(32,.ints .u64 8 z0),(0,.ints .u8 64 [0,0,0,0,0,0,0,0,0,0,0,0,0,0,0,0,0,0,0,0,0,0,0,0,0,0,0,0,0,0,0,0,0,0,0,0,0,0,0,0,0,0,0,0,0,0,0,0,0,0,0,0,0,0,0,0,0,0,0,0,0,0,0,0])])
       944 (⟨tt,⟨⟨trivial,(iAdd_nat (a:=k2 + 16) (b:=1) (by omega))⟩,⟨tt,trivial⟩⟩⟩) ?_
     repeat (refine blkP_normal ?_)
     refine countP_normal (by omega) trivial ?_
     exact Sub.ren (ns:=[(160,160),(80,80),(32,32),(0,0)]) (kf:=[7,5,4,3,2]) (by kernel_rfl) (by kernel_rfl)
    ·
     have h6':=of_decide_eq_false h6
     refine Tri.exit ?_
     have hend2:k2=64:=by (have:=of_decide_eq_false h6; omega)
     subst hend2; subst hz2
     change Tri _ _ _ _ _ _
     refine sr [] (some [0,1,0,4,0,16,0,64,0,256,0,1024,0,4096,0,16384,3,65551,196671,459007,984063,2035711,4145151,8388607]) [17,16,15,14,13,12,11,10,5,4,3,2] [160,80,32,0] ((((0:Int)≤0∧0 < ((8:Nat):Int))∧True)∧(((0 < 8)∧True)∧((((0:Int)≤1∧1 < ((8:Nat):Int))∧True)∧(((1 < 8)∧True)∧((((0:Int)≤2∧2 < ((8:Nat):Int))∧True)∧(((2 < 8)∧True)∧((((0:Int)≤3∧3 < ((8:Nat):Int))∧True)∧(((3 < 8)∧True)∧((((0:Int)≤4∧4 < ((8:Nat):Int))∧True)∧(((4 < 8)∧True)∧((((0:Int)≤5∧5 < ((8:Nat):Int))∧True)∧(((5 < 8)∧True)∧((((0:Int)≤6∧6 < ((8:Nat):Int))∧True)∧(((6 < 8)∧True)∧((((0:Int)≤7∧7 < ((8:Nat):Int))∧True)∧(((7 < 8)∧True)∧(TT∧(TT∧(TT∧(TT∧(TT∧(TT∧(TT∧(TT∧True))))))))))))))))))))))))
       ([(17,.sc (.i .u64 (z0.getD 7 0))),(16,.sc (.i .u64 (z0.getD 6 0))),(15,.sc (.i .u64 (z0.getD 5 0))),(14,.sc (.i .u64 (z0.getD 4 0))),(13,.sc (.i .u64 (z0.getD 3 0))),(12,.sc (.i .u64 (z0.getD 2 0))),(11,.sc (.i .u64 (z0.getD 1 0))),(10,.sc (.i .u64 (z0.getD 0 0))),(5,qp 160 0),(4,.sc (.sl 80 (0 + (128 * k0)) ((FD49w128n0 p0) - (128 * k0)) 1 none)),(3,qp 32 0),(2,qp 0 0)],[(160,.ints .u64 80 (itr (FD35l2) 64 (itr (FD35l1 p0 k0) 128 [0,0,0,0,0,0,0,0,0,0,0,0,0,0,0,0,0,0,0,0,0,0,0,0,0,0,0,0,0,0,0,0,0,0,0,0,0,0,0,0,0,0,0,0,0,0,0,0,0,0,0,0,0,0,0,0,0,0,0,0,0,0,0,0,0,0,0,0,0,0,0,0,0,0,0,0,0,0,0,0]))),(80,.ints .u8 (FD49w128n0 p0) (FD49w128 p0)),(32,.ints .u64 8 z0),(0,.ints .u8 64 [0,0,0,0,0,0,0,0,0,0,0,0,0,0,0,0,0,0,0,0,0,0,0,0,0,0,0,0,0,0,0,0,0,0,0,0,0,0,0,0,0,0,0,0,0,0,0,0,0,0,0,0,0,0,0,0,0,0,0,0,0,0,0,0])])
       640 (⟨⟨(by omega),trivial⟩,⟨⟨(by omega),trivial⟩,⟨⟨(by omega),trivial⟩,⟨⟨(by omega),trivial⟩,⟨⟨(by omega),trivial⟩,⟨⟨(by omega),trivial⟩,⟨⟨(by omega),trivial⟩,⟨⟨(by omega),trivial⟩,⟨⟨(by omega),trivial⟩,⟨⟨(by omega),trivial⟩,⟨⟨(by omega),trivial⟩,⟨⟨(by omega),trivial⟩,⟨⟨(by omega),trivial⟩,⟨⟨(by omega),trivial⟩,⟨⟨(by omega),trivial⟩,⟨⟨(by omega),trivial⟩,⟨tt,⟨tt,⟨tt,⟨tt,⟨tt,⟨tt,⟨tt,⟨tt,trivial⟩⟩⟩⟩⟩⟩⟩⟩⟩⟩⟩⟩⟩⟩⟩⟩⟩⟩⟩⟩⟩⟩⟩⟩) ?_
     refine Tri.seq ?_
     refine sr [] none [108,17,16,15,14,13,12,11,10,5,4,3,2] [160,80,32,0] (TT∧True)
       ([(108,qi 0),(17,.sc (.i .u64 (z0.getD 7 0))),(16,.sc (.i .u64 (z0.getD 6 0))),(15,.sc (.i .u64 (z0.getD 5 0))),(14,.sc (.i .u64 (z0.getD 4 0))),(13,.sc (.i .u64 (z0.getD 3 0))),(12,.sc (.i .u64 (z0.getD 2 0))),(11,.sc (.i .u64 (z0.getD 1 0))),(10,.sc (.i .u64 (z0.getD 0 0))),(5,qp 160 0),(4,.sc (.sl 80 (0 + (128 * k0)) ((FD49w128n0 p0) - (128 * k0)) 1 none)),(3,qp 32 0),(2,qp 0 0)],[(160,.ints .u64 80 (itr (FD35l2) 64 (itr (FD35l1 p0 k0) 128 [0,0,0,0,0,0,0,0,0,0,0,0,0,0,0,0,0,0,0,0,0,0,0,0,0,0,0,0,0,0,0,0,0,0,0,0,0,0,0,0,0,0,0,0,0,0,0,0,0,0,0,0,0,0,0,0,0,0,0,0,0,0,0,0,0,0,0,0,0,0,0,0,0,0,0,0,0,0,0,0]))),(80,.ints .u8 (FD49w128n0 p0) (FD49w128 p0)),(32,.ints .u64 8 z0),(0,.ints .u8 64 [0,0,0,0,0,0,0,0,0,0,0,0,0,0,0,0,0,0,0,0,0,0,0,0,0,0,0,0,0,0,0,0,0,0,0,0,0,0,0,0,0,0,0,0,0,0,0,0,0,0,0,0,0,0,0,0,0,0,0,0,0,0,0,0])])
       656 (⟨tt,trivial⟩) ?_
     refine Tri.block ?_
     refine Tri.count 656 80 (FD35l3 p0 k0) (z0.getD 7 0,z0.getD 6 0,z0.getD 5 0,z0.getD 4 0,z0.getD 3 0,z0.getD 2 0,z0.getD 1 0,z0.getD 0 0) (fun k3 z3 => True) (fun k3 z3 => ([(108,qi (k3:Int)),(17,.sc (.i .u64 z3.1)),(16,.sc (.i .u64 z3.2.1)),(15,.sc (.i .u64 z3.2.2.1)),(14,.sc (.i .u64 z3.2.2.2.1)),(13,.sc (.i .u64 z3.2.2.2.2.1)),(12,.sc (.i .u64 z3.2.2.2.2.2.1)),(11,.sc (.i .u64 z3.2.2.2.2.2.2.1)),(10,.sc (.i .u64 z3.2.2.2.2.2.2.2)),(5,qp 160 0),(4,.sc (.sl 80 (0 + (128 * k0)) ((FD49w128n0 p0) - (128 * k0)) 1 none)),(3,qp 32 0),(2,qp 0 0)],[(160,.ints .u64 80 (itr (FD35l2) 64 (itr (FD35l1 p0 k0) 128 [0,0,0,0,0,0,0,0,0,0,0,0,0,0,0,0,0,0,0,0,0,0,0,0,0,0,0,0,0,0,0,0,0,0,0,0,0,0,0,0,0,0,0,0,0,0,0,0,0,0,0,0,0,0,0,0,0,0,0,0,0,0,0,0,0,0,0,0,0,0,0,0,0,0,0,0,0,0,0,0]))),(80,.ints .u8 (FD49w128n0 p0) (FD49w128 p0)),(32,.ints .u64 8 z0),(0,.ints .u8 64 [0,0,0,0,0,0,0,0,0,0,0,0,0,0,0,0,0,0,0,0,0,0,0,0,0,0,0,0,0,0,0,0,0,0,0,0,0,0,0,0,0,0,0,0,0,0,0,0,0,0,0,0,0,0,0,0,0,0,0,0,0,0,0,0])])) trivial (Sub.of_eq (by kernel_rfl)) ?_
     intro k3 z3 hk3 hz3 hJ3
     refine sr [] none [109,108,17,16,15,14,13,12,11,10,5,4,3,2] [160,80,32,0] (TT∧True)
       ([(109,.sc (.b (decide (((k3:Int):Int) < 80)))),(108,qi (k3:Int)),(17,.sc (.i .u64 z3.1)),(16,.sc (.i .u64 z3.2.1)),(15,.sc (.i .u64 z3.2.2.1)),(14,.sc (.i .u64 z3.2.2.2.1)),(13,.sc (.i .u64 z3.2.2.2.2.1)),(12,.sc (.i .u64 z3.2.2.2.2.2.1)),(11,.sc (.i .u64 z3.2.2.2.2.2.2.1)),(10,.sc (.i .u64 z3.2.2.2.2.2.2.2)),(5,qp 160 0),(4,.sc (.sl 80 (0 + (128 * k0)) ((FD49w128n0 p0) - (128 * k0)) 1 none)),(3,qp 32 0),(2,qp 0 0)],[(160,.ints .u64 80 (itr (FD35l2) 64 (itr (FD35l1 p0 k0) 128 [0,0,0,0,0,0,0,0,0,0,0,0,0,0,0,0,0,0,0,0,0,0,0,0,0,0,0,0,0,0,0,0,0,0,0,0,0,0,0,0,0,0,0,0,0,0,0,0,0,0,0,0,0,0,0,0,0,0,0,0,0,0,0,0,0,0,0,0,0,0,0,0,0,0,0,0,0,0,0,0]))),(80,.ints .u8 (FD49w128n0 p0) (FD49w128 p0)),(32,.ints .u64 8 z0),(0,.ints .u8 64 [0,0,0,0,0,0,0,0,0,0,0,0,0,0,0,0,0,0,0,0,0,0,0,0,0,0,0,0,0,0,0,0,0,0,0,0,0,0,0,0,0,0,0,0,0,0,0,0,0,0,0,0,0,0,0,0,0,0,0,0,0,0,0,0])])
       672 (⟨tt,trivial⟩) ?_
     refine Tri.seq ?_
     refine Tri.cond (x:=(decide (((k3:Int):Int) < 80))) (by kernel_rfl) (fun h7 => ?_) (fun h7 => ?_)
     ·
      have h7':=of_decide_eq_true h7
      refine Tri.skip ?_
      change Tri _ _ _ _ _ _
      refine Tri.seq ?_
      refine Tri.block ?_
      refine sr [] none [18,108,17,16,15,14,13,12,11,10,5,4,3,2] [160,80,32,0] (TT∧(TT∧True))
        ([(18,qi (k3:Int)),(108,qi (k3:Int)),(17,.sc (.i .u64 z3.1)),(16,.sc (.i .u64 z3.2.1)),(15,.sc (.i .u64 z3.2.2.1)),(14,.sc (.i .u64 z3.2.2.2.1)),(13,.sc (.i .u64 z3.2.2.2.2.1)),(12,.sc (.i .u64 z3.2.2.2.2.2.1)),(11,.sc (.i .u64 z3.2.2.2.2.2.2.1)),(10,.sc (.i .u64 z3.2.2.2.2.2.2.2)),(5,qp 160 0),(4,.sc (.sl 80 (0 + (128 * k0)) ((FD49w128n0 p0) - (128 * k0)) 1 none)),(3,qp 32 0),(2,qp 0 0)],[(160,.ints .u64 80 (itr (FD35l2) 64 (itr (FD35l1 p0 k0) 128 [0,0,0,0,0,0,0,0,0,0,0,0,0,0,0,0,0,0,0,0,0,0,0,0,0,0,0,0,0,0,0,0,0,0,0,0,0,0,0,0,0,0,0,0,0,0,0,0,0,0,0,0,0,0,0,0,0,0,0,0,0,0,0,0,0,0,0,0,0,0,0,0,0,0,0,0,0,0,0,0]))),(80,.ints .u8 (FD49w128n0 p0) (FD49w128 p0)),(32,.ints .u64 8 z0),(0,.ints .u8 64 [0,0,0,0,0,0,0,0,0,0,0,0,0,0,0,0,0,0,0,0,0,0,0,0,0,0,0,0,0,0,0,0,0,0,0,0,0,0,0,0,0,0,0,0,0,0,0,0,0,0,0,0,0,0,0,0,0,0,0,0,0,0,0,0])])
        704 (⟨tt,⟨tt,trivial⟩⟩) ?_
      refine sr [] (some [0,0,2,0,14,30,0,94,254,511,0,0,3072,0,8192,0,57344,130048,262143,0,524288,1572864,4194303,0,8388608,25165824,67108863,134217727]) [19,108,16,15,14,13,12,11,10,5,4,3,2] [160,80,32,0] (TT∧(TT∧((TT∧True)∧(TT∧((TT∧True)∧(TT∧(TT∧((TT∧True)∧(TT∧(TT∧(TT∧(TT∧(TT∧(TT∧(TT∧(TT∧(TT∧(TT∧(TT∧(TT∧((((0:Int)≤(k3:Int)∧(k3:Int) < ((80:Nat):Int))∧True)∧(((0 + k3 < gSteps.length)∧True)∧(TT∧(TT∧((((0:Int)≤(k3:Int)∧(k3:Int) < ((80:Nat):Int))∧True)∧(((k3 < 80)∧True)∧(TT∧(TT∧True))))))))))))))))))))))))))))
        ([(19,.sc (.i .u64 (iAdd .u64 (iAdd .u64 (iAdd .u64 (iAdd .u64 z3.1 (iXor .u64 (iXor .u64 (FD51 z3.2.2.2.1 50) (FD51 z3.2.2.2.1 46)) (FD51 z3.2.2.2.1 23))) (iXor .u64 (iAnd .u64 z3.2.2.2.1 z3.2.2.1) (iAnd .u64 (iNot .u64 z3.2.2.2.1) z3.2.1))) (gSteps.getD (0 + k3) 0)) ((itr (FD35l2) 64 (itr (FD35l1 p0 k0) 128 [0,0,0,0,0,0,0,0,0,0,0,0,0,0,0,0,0,0,0,0,0,0,0,0,0,0,0,0,0,0,0,0,0,0,0,0,0,0,0,0,0,0,0,0,0,0,0,0,0,0,0,0,0,0,0,0,0,0,0,0,0,0,0,0,0,0,0,0,0,0,0,0,0,0,0,0,0,0,0,0])).getD k3 0)))),(108,qi (k3:Int)),(16,.sc (.i .u64 z3.2.1)),(15,.sc (.i .u64 z3.2.2.1)),(14,.sc (.i .u64 z3.2.2.2.1)),(13,.sc (.i .u64 z3.2.2.2.2.1)),(12,.sc (.i .u64 z3.2.2.2.2.2.1)),(11,.sc (.i .u64 z3.2.2.2.2.2.2.1)),(10,.sc (.i .u64 z3.2.2.2.2.2.2.2)),(5,qp 160 0),(4,.sc (.sl 80 (0 + (128 * k0)) ((FD49w128n0 p0) - (128 * k0)) 1 none)),(3,qp 32 0),(2,qp 0 0)],[(160,.ints .u64 80 (itr (FD35l2) 64 (itr (FD35l1 p0 k0) 128 [0,0,0,0,0,0,0,0,0,0,0,0,0,0,0,0,0,0,0,0,0,0,0,0,0,0,0,0,0,0,0,0,0,0,0,0,0,0,0,0,0,0,0,0,0,0,0,0,0,0,0,0,0,0,0,0,0,0,0,0,0,0,0,0,0,0,0,0,0,0,0,0,0,0,0,0,0,0,0,0]))),(80,.ints .u8 (FD49w128n0 p0) (FD49w128 p0)),(32,.ints .u64 8 z0),(0,.ints .u8 64 [0,0,0,0,0,0,0,0,0,0,0,0,0,0,0,0,0,0,0,0,0,0,0,0,0,0,0,0,0,0,0,0,0,0,0,0,0,0,0,0,0,0,0,0,0,0,0,0,0,0,0,0,0,0,0,0,0,0,0,0,0,0,0,0])])
        1152 (⟨tt,⟨tt,⟨⟨tt,trivial⟩,⟨tt,⟨⟨tt,trivial⟩,⟨tt,⟨tt,⟨⟨tt,trivial⟩,⟨tt,⟨tt,⟨tt,⟨tt,⟨tt,⟨tt,⟨tt,⟨tt,⟨tt,⟨tt,⟨tt,⟨tt,⟨⟨(by omega),trivial⟩,⟨⟨(by omega),trivial⟩,⟨tt,⟨tt,⟨⟨(by omega),trivial⟩,⟨⟨(by omega),trivial⟩,⟨tt,⟨tt,trivial⟩⟩⟩⟩⟩⟩⟩⟩⟩⟩⟩⟩⟩⟩⟩⟩⟩⟩⟩⟩⟩⟩⟩⟩⟩⟩⟩⟩) ?_
      refine sr [] none [20,19,108,16,15,14,13,12,11,10,5,4,3,2] [160,80,32,0] (TT∧((TT∧True)∧(TT∧((TT∧True)∧(TT∧(TT∧((TT∧True)∧(TT∧(TT∧(TT∧(TT∧(TT∧(TT∧(TT∧(TT∧(TT∧(TT∧(TT∧(TT∧(TT∧(TT∧True)))))))))))))))))))))
        ([(20,.sc (.i .u64 (iAdd .u64 (iXor .u64 (iXor .u64 (FD51 z3.2.2.2.2.2.2.2 36) (FD51 z3.2.2.2.2.2.2.2 30)) (FD51 z3.2.2.2.2.2.2.2 25)) (iXor .u64 (iXor .u64 (iAnd .u64 z3.2.2.2.2.2.2.2 z3.2.2.2.2.2.2.1) (iAnd .u64 z3.2.2.2.2.2.2.2 z3.2.2.2.2.2.1)) (iAnd .u64 z3.2.2.2.2.2.2.1 z3.2.2.2.2.2.1))))),(19,.sc (.i .u64 (iAdd .u64 (iAdd .u64 (iAdd .u64 (iAdd .u64 z3.1 (iXor .u64 (iXor .u64 (FD51 z3.2.2.2.1 50) (FD51 z3.2.2.2.1 46)) (FD51 z3.2.2.2.1 23))) (iXor .u64 (iAnd .u64 z3.2.2.2.1 z3.2.2.1) (iAnd .u64 (iNot .u64 z3.2.2.2.1) z3.2.1))) (gSteps.getD (0 + k3) 0)) ((itr (FD35l2) 64 (itr (FD35l1 p0 k0) 128 [0,0,0,0,0,0,0,0,0,0,0,0,0,0,0,0,0,0,0,0,0,0,0,0,0,0,0,0,0,0,0,0,0,0,0,0,0,0,0,0,0,0,0,0,0,0,0,0,0,0,0,0,0,0,0,0,0,0,0,0,0,0,0,0,0,0,0,0,0,0,0,0,0,0,0,0,0,0,0,0])).getD k3 0)))),(108,qi (k3:Int)),(16,.sc (.i .u64 z3.2.1)),(15,.sc (.i .u64 z3.2.2.1)),(14,.sc (.i .u64 z3.2.2.2.1)),(13,.sc (.i .u64 z3.2.2.2.2.1)),(12,.sc (.i .u64 z3.2.2.2.2.2.1)),(11,.sc (.i .u64 z3.2.2.2.2.2.2.1)),(10,.sc (.i .u64 z3.2.2.2.2.2.2.2)),(5,qp 160 0),(4,.sc (.sl 80 (0 + (128 * k0)) ((FD49w128n0 p0) - (128 * k0)) 1 none)),(3,qp 32 0),(2,qp 0 0)],[(160,.ints .u64 80 (itr (FD35l2) 64 (itr (FD35l1 p0 k0) 128 [0,0,0,0,0,0,0,0,0,0,0,0,0,0,0,0,0,0,0,0,0,0,0,0,0,0,0,0,0,0,0,0,0,0,0,0,0,0,0,0,0,0,0,0,0,0,0,0,0,0,0,0,0,0,0,0,0,0,0,0,0,0,0,0,0,0,0,0,0,0,0,0,0,0,0,0,0,0,0,0]))),(80,.ints .u8 (FD49w128n0 p0) (FD49w128 p0)),(32,.ints .u64 8 z0),(0,.ints .u8 64 [0,0,0,0,0,0,0,0,0,0,0,0,0,0,0,0,0,0,0,0,0,0,0,0,0,0,0,0,0,0,0,0,0,0,0,0,0,0,0,0,0,0,0,0,0,0,0,0,0,0,0,0,0,0,0,0,0,0,0,0,0,0,0,0])])
        1488 (⟨tt,⟨⟨tt,trivial⟩,⟨tt,⟨⟨tt,trivial⟩,⟨tt,⟨tt,⟨⟨tt,trivial⟩,⟨tt,⟨tt,⟨tt,⟨tt,⟨tt,⟨tt,⟨tt,⟨tt,⟨tt,⟨tt,⟨tt,⟨tt,⟨tt,⟨tt,trivial⟩⟩⟩⟩⟩⟩⟩⟩⟩⟩⟩⟩⟩⟩⟩⟩⟩⟩⟩⟩⟩) ?_
      refine rr [] none [17,16,15,14,13,12,11,10,108,5,4,3,2] [160,80,32,0] (TT∧(TT∧(TT∧(TT∧(TT∧(TT∧(TT∧(TT∧(TT∧(TT∧(TT∧(TT∧(TT∧(TT∧(TT∧(TT∧(TT∧(TT∧(TT∧(TT∧True))))))))))))))))))))
        ([(17,.sc (.i .u64 z3.2.1)),(16,.sc (.i .u64 z3.2.2.1)),(15,.sc (.i .u64 z3.2.2.2.1)),(14,.sc (.i .u64 (iAdd .u64 z3.2.2.2.2.1 (iAdd .u64 (iAdd .u64 (iAdd .u64 (iAdd .u64 z3.1 (iXor .u64 (iXor .u64 (FD51 z3.2.2.2.1 50) (FD51 z3.2.2.2.1 46)) (FD51 z3.2.2.2.1 23))) (iXor .u64 (iAnd .u64 z3.2.2.2.1 z3.2.2.1) (iAnd .u64 (iNot .u64 z3.2.2.2.1) z3.2.1))) (gSteps.getD (0 + k3) 0)) ((itr (FD35l2) 64 (itr (FD35l1 p0 k0) 128 [0,0,0,0,0,0,0,0,0,0,0,0,0,0,0,0,0,0,0,0,0,0,0,0,0,0,0,0,0,0,0,0,0,0,0,0,0,0,0,0,0,0,0,0,0,0,0,0,0,0,0,0,0,0,0,0,0,0,0,0,0,0,0,0,0,0,0,0,0,0,0,0,0,0,0,0,0,0,0,0])).getD k3 0))))),(13,.sc (.i .u64 z3.2.2.2.2.2.1)),(12,.sc (.i .u64 z3.2.2.2.2.2.2.1)),(11,.sc (.i .u64 z3.2.2.2.2.2.2.2)),(10,.sc (.i .u64 (iAdd .u64 (iAdd .u64 (iAdd .u64 (iAdd .u64 (iAdd .u64 z3.1 (iXor .u64 (iXor .u64 (FD51 z3.2.2.2.1 50) (FD51 z3.2.2.2.1 46)) (FD51 z3.2.2.2.1 23))) (iXor .u64 (iAnd .u64 z3.2.2.2.1 z3.2.2.1) (iAnd .u64 (iNot .u64 z3.2.2.2.1) z3.2.1))) (gSteps.getD (0 + k3) 0)) ((itr (FD35l2) 64 (itr (FD35l1 p0 k0) 128 [0,0,0,0,0,0,0,0,0,0,0,0,0,0,0,0,0,0,0,0,0,0,0,0,0,0,0,0,0,0,0,0,0,0,0,0,0,0,0,0,0,0,0,0,0,0,0,0,0,0,0,0,0,0,0,0,0,0,0,0,0,0,0,0,0,0,0,0,0,0,0,0,0,0,0,0,0,0,0,0])).getD k3 0)) (iAdd .u64 (iXor .u64 (iXor .u64 (FD51 z3.2.2.2.2.2.2.2 36) (FD51 z3.2.2.2.2.2.2.2 30)) (FD51 z3.2.2.2.2.2.2.2 25)) (iXor .u64 (iXor .u64 (iAnd .u64 z3.2.2.2.2.2.2.2 z3.2.2.2.2.2.2.1) (iAnd .u64 z3.2.2.2.2.2.2.2 z3.2.2.2.2.2.1)) (iAnd .u64 z3.2.2.2.2.2.2.1 z3.2.2.2.2.2.1)))))),(108,qi (k3:Int)),(5,qp 160 0),(4,.sc (.sl 80 (0 + (128 * k0)) ((FD49w128n0 p0) - (128 * k0)) 1 none)),(3,qp 32 0),(2,qp 0 0)],[(160,.ints .u64 80 (itr (FD35l2) 64 (itr (FD35l1 p0 k0) 128 [0,0,0,0,0,0,0,0,0,0,0,0,0,0,0,0,0,0,0,0,0,0,0,0,0,0,0,0,0,0,0,0,0,0,0,0,0,0,0,0,0,0,0,0,0,0,0,0,0,0,0,0,0,0,0,0,0,0,0,0,0,0,0,0,0,0,0,0,0,0,0,0,0,0,0,0,0,0,0,0]))),(80,.ints .u8 (FD49w128n0 p0) (FD49w128 p0)),(32,.ints .u64 8 z0),(0,.ints .u8 64 [0,0,0,0,0,0,0,0,0,0,0,0,0,0,0,0,0,0,0,0,0,0,0,0,0,0,0,0,0,0,0,0,0,0,0,0,0,0,0,0,0,0,0,0,0,0,0,0,0,0,0,0,0,0,0,0,0,0,0,0,0,0,0,0])])
        1808 (⟨tt,⟨tt,⟨tt,⟨tt,⟨tt,⟨tt,⟨tt,⟨tt,⟨tt,⟨tt,⟨tt,⟨tt,⟨tt,⟨tt,⟨tt,⟨tt,⟨tt,⟨tt,⟨tt,⟨tt,trivial⟩⟩⟩⟩⟩⟩⟩⟩⟩⟩⟩⟩⟩⟩⟩⟩⟩⟩⟩⟩) ?_
      change Tri _ _ _ _ _ _
      refine rr [(170,.i .i64 ((k3 + 1:Nat):Int))] none [108,17,16,15,14,13,12,11,10,5,4,3,2] [160,80,32,0] ((True∧((iAdd .i64 (k3:Int) 1)=((k3 + 1:Nat):Int)))∧(TT∧True))
        ([(108,qi ((k3 + 1:Nat):Int)),(17,.sc (.i .u64 z3.2.1)),(16,.sc (.i .u64 z3.2.2.1)),(15,.sc (.i .u64 z3.2.2.2.1)),(14,.sc (.i .u64 (iAdd .u64 z3.2.2.2.2.1 (iAdd .u64 (iAdd .u64 (iAdd .u64 (iAdd .u64 z3.1 (iXor .u64 (iXor .u64 (FD51 z3.2.2.2.1 50) (FD51 z3.2.2.2.1 46)) (FD51 z3.2.2.2.1 23))) (iXor .u64 (iAnd .u64 z3.2.2.2.1 z3.2.2.1) (iAnd .u64 (iNot .u64 z3.2.2.2.1) z3.2.1))) (gSteps.getD (0 + k3) 0)) ((itr (FD35l2) 64 (itr (FD35l1 p0 k0) 128 [0,0,0,0,0,0,0,0,0,0,0,0,0,0,0,0,0,0,0,0,0,0,0,0,0,0,0,0,0,0,0,0,0,0,0,0,0,0,0,0,0,0,0,0,0,0,0,0,0,0,0,0,0,0,0,0,0,0,0,0,0,0,0,0,0,0,0,0,0,0,0,0,0,0,0,0,0,0,0,0])).getD k3 0))))),(13,.sc (.i .u64 z3.2.2.2.2.2.1)),(12,.sc (.i .u64 z3.2.2.2.2.2.2.1)),(11,.sc (.i .u64 z3.2.2.2.2.2.2.2)),(10,.sc (.i .u64 (iAdd .u64 (iAdd .u64 (iAdd .u64 (iAdd .u64 (iAdd .u64 z3.1 (iXor .u64 (iXor .u64 (FD51 z3.2.2.2.1 50) (FD51 z3.2.2.2.1 46)) (FD51 z3.2.2.2.1 23))) (iXor .u64 (iAnd .u64 z3.2.2.2.1 z3.2.2.1) (iAnd .u64 (iNot .u64 z3.2.2.2.1) z3.2.1))) (gSteps.getD (0 + k3) 0)) ((itr (FD35l2) 64 (itr (FD35l1 p0 k0) 128 [0,0,0,0,0,0,0,0,0,0,0,0,0,0,0,0,0,0,0,0,0,0,0,0,0,0,0,0,0,0,0,0,0,0,0,0,0,0,0,0,0,0,0,0,0,0,0,0,0,0,0,0,0,0,0,0,0,0,0,0,0,0,0,0,0,0,0,0,0,0,0,0,0,0,0,0,0,0,0,0])).getD k3 0)) (iAdd .u64 (iXor .u64 (iXor .u64 (FD51 z3.2.2.2.2.2.2.2 36) (FD51 z3.2.2.2.2.2.2.2 30)) (FD51 z3.2.2.2.2.2.2.2 25)) (iXor .u64 (iXor .u64 (iAnd .u64 z3.2.2.2.2.2.2.2 z3.2.2.2.2.2.2.1) (iAnd .u64 z3.2.2.2.2.2.2.2 z3.2.2.2.2.2.1)) (iAnd .u64 z3.2.2.2.2.2.2.1 z3.2.2.2.2.2.1)))))),(5,qp 160 0),(4,.sc (.sl 80 (0 + (128 * k0)) ((FD49w128n0 p0) - (128 * k0)) 1 none)),(3,qp 32 0),(2,qp 0 0)],[(160,.ints .u64 80 (itr (FD35l2) 64 (itr (FD35l1 p0 k0) 128 [0,0,0,0,0,0,0,0,0,0,0,0,0,0,0,0,0,0,0,0,0,0,0,0,0,0,0,0,0,0,0,0,0,0,0,0,0,0,0,0,0,0,0,0,0,0,0,0,0,0,0,0,0,0,0,0,0,0,0,0,0,0,0,0,0,0,0,0,0,0,0,0,0,0,0,0,0,0,0,0]))),(80,.ints .u8 (FD49w128n0 p0) (FD49w128 p0)),(32,.ints .u64 8 z0),(0,.ints .u8 64 [0,0,0,0,0,0,0,0,0,0,0,0,0,0,0,0,0,0,0,0,0,0,0,0,0,0,0,0,0,0,0,0,0,0,0,0,0,0,0,0,0,0,0,0,0,0,0,0,0,0,0,0,0,0,0,0,0,0,0,0,0,0,0,0])])
        1840 (⟨⟨trivial,(iAdd_nat (a:=k3) (b:=1) (by omega))⟩,⟨tt,trivial⟩⟩) ?_
      repeat (refine blkP_normal ?_)
      refine countP_normal (by omega) trivial ?_
      exact Sub.ren (ns:=[(160,160),(80,80),(32,32),(0,0)]) (kf:=[108,17,16,15,14,13,12,11,10,5,4,3,2]) (by kernel_rfl) (by kernel_rfl)
     ·
      have h7':=of_decide_eq_false h7
      refine Tri.exit ?_
      have hend3:k3=80:=by (have:=of_decide_eq_false h7; omega)
      subst hend3; subst hz3
      change Tri _ _ _ _ _ _
      refine sr [] none [180,179,4,3,2] [80,32,0] (TT∧(TT∧(TT∧(TT∧(TT∧(TT∧(TT∧(TT∧(((((0 < 8)∧(1=1))∧(((1 < 8)∧(1=1))∧(((2 < 8)∧(1=1))∧(((3 < 8)∧(1=1))∧(((4 < 8)∧(1=1))∧(((5 < 8)∧(1=1))∧(((6 < 8)∧(1=1))∧(((7 < 8)∧(1=1))∧True))))))))∧True)∧(TT∧True))))))))))
        ([(180,qi 0),(179,.ints .u64 8 [(itr (FD35l3 p0 k0) 80 (z0.getD 7 0,z0.getD 6 0,z0.getD 5 0,z0.getD 4 0,z0.getD 3 0,z0.getD 2 0,z0.getD 1 0,z0.getD 0 0)).2.2.2.2.2.2.2,(itr (FD35l3 p0 k0) 80 (z0.getD 7 0,z0.getD 6 0,z0.getD 5 0,z0.getD 4 0,z0.getD 3 0,z0.getD 2 0,z0.getD 1 0,z0.getD 0 0)).2.2.2.2.2.2.1,(itr (FD35l3 p0 k0) 80 (z0.getD 7 0,z0.getD 6 0,z0.getD 5 0,z0.getD 4 0,z0.getD 3 0,z0.getD 2 0,z0.getD 1 0,z0.getD 0 0)).2.2.2.2.2.1,(itr (FD35l3 p0 k0) 80 (z0.getD 7 0,z0.getD 6 0,z0.getD 5 0,z0.getD 4 0,z0.getD 3 0,z0.getD 2 0,z0.getD 1 0,z0.getD 0 0)).2.2.2.2.1,(itr (FD35l3 p0 k0) 80 (z0.getD 7 0,z0.getD 6 0,z0.getD 5 0,z0.getD 4 0,z0.getD 3 0,z0.getD 2 0,z0.getD 1 0,z0.getD 0 0)).2.2.2.1,(itr (FD35l3 p0 k0) 80 (z0.getD 7 0,z0.getD 6 0,z0.getD 5 0,z0.getD 4 0,z0.getD 3 0,z0.getD 2 0,z0.getD 1 0,z0.getD 0 0)).2.2.1,(itr (FD35l3 p0 k0) 80 (z0.getD 7 0,z0.getD 6 0,z0.getD 5 0,z0.getD 4 0,z0.getD 3 0,z0.getD 2 0,z0.getD 1 0,z0.getD 0 0)).2.1,(itr (FD35l3 p0 k0) 80 (z0.getD 7 0,z0.getD 6 0,z0.getD 5 0,z0.getD 4 0,z0.getD 3 0,z0.getD 2 0,z0.getD 1 0,z0.getD 0 0)).1]),(4,.sc (.sl 80 (0 + (128 * k0)) ((FD49w128n0 p0) - (128 * k0)) 1 none)),(3,qp 32 0),(2,qp 0 0)],[(80,.ints .u8 (FD49w128n0 p0) (FD49w128 p0)),(32,.ints .u64 8 z0),(0,.ints .u8 64 [0,0,0,0,0,0,0,0,0,0,0,0,0,0,0,0,0,0,0,0,0,0,0,0,0,0,0,0,0,0,0,0,0,0,0,0,0,0,0,0,0,0,0,0,0,0,0,0,0,0,0,0,0,0,0,0,0,0,0,0,0,0,0,0])])
        832 (⟨tt,⟨tt,⟨tt,⟨tt,⟨tt,⟨tt,⟨tt,⟨tt,⟨⟨⟨⟨(by omega),(rfl)⟩,⟨⟨(by omega),(rfl)⟩,⟨⟨(by omega),(rfl)⟩,⟨⟨(by omega),(rfl)⟩,⟨⟨(by omega),(rfl)⟩,⟨⟨(by omega),(rfl)⟩,⟨⟨(by omega),(rfl)⟩,⟨⟨(by omega),(rfl)⟩,trivial⟩⟩⟩⟩⟩⟩⟩⟩,trivial⟩,⟨tt,trivial⟩⟩⟩⟩⟩⟩⟩⟩⟩⟩) ?_
      refine Tri.block ?_
      refine Tri.count 832 8 (FD35l4 p0 k0 z0) z0 (fun k4 z4 => True) (fun k4 z4 => ([(180,qi (k4:Int)),(179,.ints .u64 8 [(itr (FD35l3 p0 k0) 80 (z0.getD 7 0,z0.getD 6 0,z0.getD 5 0,z0.getD 4 0,z0.getD 3 0,z0.getD 2 0,z0.getD 1 0,z0.getD 0 0)).2.2.2.2.2.2.2,(itr (FD35l3 p0 k0) 80 (z0.getD 7 0,z0.getD 6 0,z0.getD 5 0,z0.getD 4 0,z0.getD 3 0,z0.getD 2 0,z0.getD 1 0,z0.getD 0 0)).2.2.2.2.2.2.1,(itr (FD35l3 p0 k0) 80 (z0.getD 7 0,z0.getD 6 0,z0.getD 5 0,z0.getD 4 0,z0.getD 3 0,z0.getD 2 0,z0.getD 1 0,z0.getD 0 0)).2.2.2.2.2.1,(itr (FD35l3 p0 k0) 80 (z0.getD 7 0,z0.getD 6 0,z0.getD 5 0,z0.getD 4 0,z0.getD 3 0,z0.getD 2 0,z0.getD 1 0,z0.getD 0 0)).2.2.2.2.1,(itr (FD35l3 p0 k0) 80 (z0.getD 7 0,z0.getD 6 0,z0.getD 5 0,z0.getD 4 0,z0.getD 3 0,z0.getD 2 0,z0.getD 1 0,z0.getD 0 0)).2.2.2.1,(itr (FD35l3 p0 k0) 80 (z0.getD 7 0,z0.getD 6 0,z0.getD 5 0,z0.getD 4 0,z0.getD 3 0,z0.getD 2 0,z0.getD 1 0,z0.getD 0 0)).2.2.1,(itr (FD35l3 p0 k0) 80 (z0.getD 7 0,z0.getD 6 0,z0.getD 5 0,z0.getD 4 0,z0.getD 3 0,z0.getD 2 0,z0.getD 1 0,z0.getD 0 0)).2.1,(itr (FD35l3 p0 k0) 80 (z0.getD 7 0,z0.getD 6 0,z0.getD 5 0,z0.getD 4 0,z0.getD 3 0,z0.getD 2 0,z0.getD 1 0,z0.getD 0 0)).1]),(4,.sc (.sl 80 (0 + (128 * k0)) ((FD49w128n0 p0) - (128 * k0)) 1 none)),(3,qp 32 0),(2,qp 0 0)],[(80,.ints .u8 (FD49w128n0 p0) (FD49w128 p0)),(32,.ints .u64 8 z4),(0,.ints .u8 64 [0,0,0,0,0,0,0,0,0,0,0,0,0,0,0,0,0,0,0,0,0,0,0,0,0,0,0,0,0,0,0,0,0,0,0,0,0,0,0,0,0,0,0,0,0,0,0,0,0,0,0,0,0,0,0,0,0,0,0,0,0,0,0,0])])) trivial (Sub.of_eq (by kernel_rfl)) ?_
      intro k4 z4 hk4 hz4 hJ4
      refine sr [] none [181,180,179,4,3,2] [80,32,0] (TT∧True)
        ([(181,.sc (.b (decide (((k4:Int):Int) < 8)))),(180,qi (k4:Int)),(179,.ints .u64 8 [(itr (FD35l3 p0 k0) 80 (z0.getD 7 0,z0.getD 6 0,z0.getD 5 0,z0.getD 4 0,z0.getD 3 0,z0.getD 2 0,z0.getD 1 0,z0.getD 0 0)).2.2.2.2.2.2.2,(itr (FD35l3 p0 k0) 80 (z0.getD 7 0,z0.getD 6 0,z0.getD 5 0,z0.getD 4 0,z0.getD 3 0,z0.getD 2 0,z0.getD 1 0,z0.getD 0 0)).2.2.2.2.2.2.1,(itr (FD35l3 p0 k0) 80 (z0.getD 7 0,z0.getD 6 0,z0.getD 5 0,z0.getD 4 0,z0.getD 3 0,z0.getD 2 0,z0.getD 1 0,z0.getD 0 0)).2.2.2.2.2.1,(itr (FD35l3 p0 k0) 80 (z0.getD 7 0,z0.getD 6 0,z0.getD 5 0,z0.getD 4 0,z0.getD 3 0,z0.getD 2 0,z0.getD 1 0,z0.getD 0 0)).2.2.2.2.1,(itr (FD35l3 p0 k0) 80 (z0.getD 7 0,z0.getD 6 0,z0.getD 5 0,z0.getD 4 0,z0.getD 3 0,z0.getD 2 0,z0.getD 1 0,z0.getD 0 0)).2.2.2.1,(itr (FD35l3 p0 k0) 80 (z0.getD 7 0,z0.getD 6 0,z0.getD 5 0,z0.getD 4 0,z0.getD 3 0,z0.getD 2 0,z0.getD 1 0,z0.getD 0 0)).2.2.1,(itr (FD35l3 p0 k0) 80 (z0.getD 7 0,z0.getD 6 0,z0.getD 5 0,z0.getD 4 0,z0.getD 3 0,z0.getD 2 0,z0.getD 1 0,z0.getD 0 0)).2.1,(itr (FD35l3 p0 k0) 80 (z0.getD 7 0,z0.getD 6 0,z0.getD 5 0,z0.getD 4 0,z0.getD 3 0,z0.getD 2 0,z0.getD 1 0,z0.getD 0 0)).1]),(4,.sc (.sl 80 (0 + (128 * k0)) ((FD49w128n0 p0) - (128 * k0)) 1 none)),(3,qp 32 0),(2,qp 0 0)],[(80,.ints .u8 (FD49w128n0 p0) (FD49w128 p0)),(32,.ints .u64 8 z4),(0,.ints .u8 64 [0,0,0,0,0,0,0,0,0,0,0,0,0,0,0,0,0,0,0,0,0,0,0,0,0,0,0,0,0,0,0,0,0,0,0,0,0,0,0,0,0,0,0,0,0,0,0,0,0,0,0,0,0,0,0,0,0,0,0,0,0,0,0,0])])
        848 (⟨tt,trivial⟩) ?_
      refine Tri.seq ?_
      refine Tri.cond (x:=(decide (((k4:Int):Int) < 8))) (by kernel_rfl) (fun h8 => ?_) (fun h8 => ?_)
      ·
       have h8':=of_decide_eq_true h8
       refine Tri.skip ?_
       change Tri _ _ _ _ _ _
       refine Tri.seq ?_
       refine Tri.block ?_
       refine sr [] none [22,21,180,179,4,3,2] [80,32,0] (TT∧(((((0:Int)≤(k4:Int)∧(k4:Int) < ((8:Nat):Int))∧(k4 < 8))∧True)∧(TT∧(TT∧True))))
         ([(22,.sc (.i .u64 ([(itr (FD35l3 p0 k0) 80 (z0.getD 7 0,z0.getD 6 0,z0.getD 5 0,z0.getD 4 0,z0.getD 3 0,z0.getD 2 0,z0.getD 1 0,z0.getD 0 0)).2.2.2.2.2.2.2,(itr (FD35l3 p0 k0) 80 (z0.getD 7 0,z0.getD 6 0,z0.getD 5 0,z0.getD 4 0,z0.getD 3 0,z0.getD 2 0,z0.getD 1 0,z0.getD 0 0)).2.2.2.2.2.2.1,(itr (FD35l3 p0 k0) 80 (z0.getD 7 0,z0.getD 6 0,z0.getD 5 0,z0.getD 4 0,z0.getD 3 0,z0.getD 2 0,z0.getD 1 0,z0.getD 0 0)).2.2.2.2.2.1,(itr (FD35l3 p0 k0) 80 (z0.getD 7 0,z0.getD 6 0,z0.getD 5 0,z0.getD 4 0,z0.getD 3 0,z0.getD 2 0,z0.getD 1 0,z0.getD 0 0)).2.2.2.2.1,(itr (FD35l3 p0 k0) 80 (z0.getD 7 0,z0.getD 6 0,z0.getD 5 0,z0.getD 4 0,z0.getD 3 0,z0.getD 2 0,z0.getD 1 0,z0.getD 0 0)).2.2.2.1,(itr (FD35l3 p0 k0) 80 (z0.getD 7 0,z0.getD 6 0,z0.getD 5 0,z0.getD 4 0,z0.getD 3 0,z0.getD 2 0,z0.getD 1 0,z0.getD 0 0)).2.2.1,(itr (FD35l3 p0 k0) 80 (z0.getD 7 0,z0.getD 6 0,z0.getD 5 0,z0.getD 4 0,z0.getD 3 0,z0.getD 2 0,z0.getD 1 0,z0.getD 0 0)).2.1,(itr (FD35l3 p0 k0) 80 (z0.getD 7 0,z0.getD 6 0,z0.getD 5 0,z0.getD 4 0,z0.getD 3 0,z0.getD 2 0,z0.getD 1 0,z0.getD 0 0)).1].getD k4 0))),(21,qi (k4:Int)),(180,qi (k4:Int)),(179,.ints .u64 8 [(itr (FD35l3 p0 k0) 80 (z0.getD 7 0,z0.getD 6 0,z0.getD 5 0,z0.getD 4 0,z0.getD 3 0,z0.getD 2 0,z0.getD 1 0,z0.getD 0 0)).2.2.2.2.2.2.2,(itr (FD35l3 p0 k0) 80 (z0.getD 7 0,z0.getD 6 0,z0.getD 5 0,z0.getD 4 0,z0.getD 3 0,z0.getD 2 0,z0.getD 1 0,z0.getD 0 0)).2.2.2.2.2.2.1,(itr (FD35l3 p0 k0) 80 (z0.getD 7 0,z0.getD 6 0,z0.getD 5 0,z0.getD 4 0,z0.getD 3 0,z0.getD 2 0,z0.getD 1 0,z0.getD 0 0)).2.2.2.2.2.1,(itr (FD35l3 p0 k0) 80 (z0.getD 7 0,z0.getD 6 0,z0.getD 5 0,z0.getD 4 0,z0.getD 3 0,z0.getD 2 0,z0.getD 1 0,z0.getD 0 0)).2.2.2.2.1,(itr (FD35l3 p0 k0) 80 (z0.getD 7 0,z0.getD 6 0,z0.getD 5 0,z0.getD 4 0,z0.getD 3 0,z0.getD 2 0,z0.getD 1 0,z0.getD 0 0)).2.2.2.1,(itr (FD35l3 p0 k0) 80 (z0.getD 7 0,z0.getD 6 0,z0.getD 5 0,z0.getD 4 0,z0.getD 3 0,z0.getD 2 0,z0.getD 1 0,z0.getD 0 0)).2.2.1,(itr (FD35l3 p0 k0) 80 (z0.getD 7 0,z0.getD 6 0,z0.getD 5 0,z0.getD 4 0,z0.getD 3 0,z0.getD 2 0,z0.getD 1 0,z0.getD 0 0)).2.1,(itr (FD35l3 p0 k0) 80 (z0.getD 7 0,z0.getD 6 0,z0.getD 5 0,z0.getD 4 0,z0.getD 3 0,z0.getD 2 0,z0.getD 1 0,z0.getD 0 0)).1]),(4,.sc (.sl 80 (0 + (128 * k0)) ((FD49w128n0 p0) - (128 * k0)) 1 none)),(3,qp 32 0),(2,qp 0 0)],[(80,.ints .u8 (FD49w128n0 p0) (FD49w128 p0)),(32,.ints .u64 8 z4),(0,.ints .u8 64 [0,0,0,0,0,0,0,0,0,0,0,0,0,0,0,0,0,0,0,0,0,0,0,0,0,0,0,0,0,0,0,0,0,0,0,0,0,0,0,0,0,0,0,0,0,0,0,0,0,0,0,0,0,0,0,0,0,0,0,0,0,0,0,0])])
         912 (⟨tt,⟨⟨⟨(by omega),(by omega)⟩,trivial⟩,⟨tt,⟨tt,trivial⟩⟩⟩⟩) ?_
       refine rr [] none [180,179,4,3,2] [32,80,0] (TT∧((((0:Int)≤(k4:Int)∧(k4:Int) < ((8:Nat):Int))∧True)∧(((k4 < 8)∧True)∧(TT∧(TT∧((((0:Int)≤(k4:Int)∧(k4:Int) < ((8:Nat):Int))∧True)∧((((k4 < 8)∧(1=1))∧True)∧True)))))))
         ([(180,qi (k4:Int)),(179,.ints .u64 8 [(itr (FD35l3 p0 k0) 80 (z0.getD 7 0,z0.getD 6 0,z0.getD 5 0,z0.getD 4 0,z0.getD 3 0,z0.getD 2 0,z0.getD 1 0,z0.getD 0 0)).2.2.2.2.2.2.2,(itr (FD35l3 p0 k0) 80 (z0.getD 7 0,z0.getD 6 0,z0.getD 5 0,z0.getD 4 0,z0.getD 3 0,z0.getD 2 0,z0.getD 1 0,z0.getD 0 0)).2.2.2.2.2.2.1,(itr (FD35l3 p0 k0) 80 (z0.getD 7 0,z0.getD 6 0,z0.getD 5 0,z0.getD 4 0,z0.getD 3 0,z0.getD 2 0,z0.getD 1 0,z0.getD 0 0)).2.2.2.2.2.1,(itr (FD35l3 p0 k0) 80 (z0.getD 7 0,z0.getD 6 0,z0.getD 5 0,z0.getD 4 0,z0.getD 3 0,z0.getD 2 0,z0.getD 1 0,z0.getD 0 0)).2.2.2.2.1,(itr (FD35l3 p0 k0) 80 (z0.getD 7 0,z0.getD 6 0,z0.getD 5 0,z0.getD 4 0,z0.getD 3 0,z0.getD 2 0,z0.getD 1 0,z0.getD 0 0)).2.2.2.1,(itr (FD35l3 p0 k0) 80 (z0.getD 7 0,z0.getD 6 0,z0.getD 5 0,z0.getD 4 0,z0.getD 3 0,z0.getD 2 0,z0.getD 1 0,z0.getD 0 0)).2.2.1,(itr (FD35l3 p0 k0) 80 (z0.getD 7 0,z0.getD 6 0,z0.getD 5 0,z0.getD 4 0,z0.getD 3 0,z0.getD 2 0,z0.getD 1 0,z0.getD 0 0)).2.1,(itr (FD35l3 p0 k0) 80 (z0.getD 7 0,z0.getD 6 0,z0.getD 5 0,z0.getD 4 0,z0.getD 3 0,z0.getD 2 0,z0.getD 1 0,z0.getD 0 0)).1]),(4,.sc (.sl 80 (0 + (128 * k0)) ((FD49w128n0 p0) - (128 * k0)) 1 none)),(3,qp 32 0),(2,qp 0 0)],[(32,.ints .u64 8 (z4.set k4 (iAdd .u64 (z4.getD k4 0) ([(itr (FD35l3 p0 k0) 80 (z0.getD 7 0,z0.getD 6 0,z0.getD 5 0,z0.getD 4 0,z0.getD 3 0,z0.getD 2 0,z0.getD 1 0,z0.getD 0 0)).2.2.2.2.2.2.2,(itr (FD35l3 p0 k0) 80 (z0.getD 7 0,z0.getD 6 0,z0.getD 5 0,z0.getD 4 0,z0.getD 3 0,z0.getD 2 0,z0.getD 1 0,z0.getD 0 0)).2.2.2.2.2.2.1,(itr (FD35l3 p0 k0) 80 (z0.getD 7 0,z0.getD 6 0,z0.getD 5 0,z0.getD 4 0,z0.getD 3 0,z0.getD 2 0,z0.getD 1 0,z0.getD 0 0)).2.2.2.2.2.1,(itr (FD35l3 p0 k0) 80 (z0.getD 7 0,z0.getD 6 0,z0.getD 5 0,z0.getD 4 0,z0.getD 3 0,z0.getD 2 0,z0.getD 1 0,z0.getD 0 0)).2.2.2.2.1,(itr (FD35l3 p0 k0) 80 (z0.getD 7 0,z0.getD 6 0,z0.getD 5 0,z0.getD 4 0,z0.getD 3 0,z0.getD 2 0,z0.getD 1 0,z0.getD 0 0)).2.2.2.1,(itr (FD35l3 p0 k0) 80 (z0.getD 7 0,z0.getD 6 0,z0.getD 5 0,z0.getD 4 0,z0.getD 3 0,z0.getD 2 0,z0.getD 1 0,z0.getD 0 0)).2.2.1,(itr (FD35l3 p0 k0) 80 (z0.getD 7 0,z0.getD 6 0,z0.getD 5 0,z0.getD 4 0,z0.getD 3 0,z0.getD 2 0,z0.getD 1 0,z0.getD 0 0)).2.1,(itr (FD35l3 p0 k0) 80 (z0.getD 7 0,z0.getD 6 0,z0.getD 5 0,z0.getD 4 0,z0.getD 3 0,z0.getD 2 0,z0.getD 1 0,z0.getD 0 0)).1].getD k4 0)))),(80,.ints .u8 (FD49w128n0 p0) (FD49w128 p0)),(0,.ints .u8 64 [0,0,0,0,0,0,0,0,0,0,0,0,0,0,0,0,0,0,0,0,0,0,0,0,0,0,0,0,0,0,0,0,0,0,0,0,0,0,0,0,0,0,0,0,0,0,0,0,0,0,0,0,0,0,0,0,0,0,0,0,0,0,0,0])])
         1024 (⟨tt,⟨⟨(by omega),trivial⟩,⟨⟨(by omega),trivial⟩,⟨tt,⟨tt,⟨⟨(by omega),trivial⟩,⟨⟨⟨(by omega),(rfl)⟩,trivial⟩,trivial⟩⟩⟩⟩⟩⟩⟩) ?_
       change Tri _ _ _ _ _ _
       refine rr [(190,.i .i64 ((k4 + 1:Nat):Int))] none [180,179,4,3,2] [32,80,0] ((True∧((iAdd .i64 (k4:Int) 1)=((k4 + 1:Nat):Int)))∧(TT∧True))
         ([(180,qi ((k4 + 1:Nat):Int)),(179,.ints .u64 8 [(itr (FD35l3 p0 k0) 80 (z0.getD 7 0,z0.getD 6 0,z0.getD 5 0,z0.getD 4 0,z0.getD 3 0,z0.getD 2 0,z0.getD 1 0,z0.getD 0 0)).2.2.2.2.2.2.2,(itr (FD35l3 p0 k0) 80 (z0.getD 7 0,z0.getD 6 0,z0.getD 5 0,z0.getD 4 0,z0.getD 3 0,z0.getD 2 0,z0.getD 1 0,z0.getD 0 0)).2.2.2.2.2.2.1,(itr (FD35l3 p0 k0) 80 (z0.getD 7 0,z0.getD 6 0,z0.getD 5 0,z0.getD 4 0,z0.getD 3 0,z0.getD 2 0,z0.getD 1 0,z0.getD 0 0)).2.2.2.2.2.1,(itr (FD35l3 p0 k0) 80 (z0.getD 7 0,z0.getD 6 0,z0.getD 5 0,z0.getD 4 0,z0.getD 3 0,z0.getD 2 0,z0.getD 1 0,z0.getD 0 0)).2.2.2.2.1,(itr (FD35l3 p0 k0) 80 (z0.getD 7 0,z0.getD 6 0,z0.getD 5 0,z0.getD 4 0,z0.getD 3 0,z0.getD 2 0,z0.getD 1 0,z0.getD 0 0)).2.2.2.1,(itr (FD35l3 p0 k0) 80 (z0.getD 7 0,z0.getD 6 0,z0.getD 5 0,z0.getD 4 0,z0.getD 3 0,z0.getD 2 0,z0.getD 1 0,z0.getD 0 0)).2.2.1,(itr (FD35l3 p0 k0) 80 (z0.getD 7 0,z0.getD 6 0,z0.getD 5 0,z0.getD 4 0,z0.getD 3 0,z0.getD 2 0,z0.getD 1 0,z0.getD 0 0)).2.1,(itr (FD35l3 p0 k0) 80 (z0.getD 7 0,z0.getD 6 0,z0.getD 5 0,z0.getD 4 0,z0.getD 3 0,z0.getD 2 0,z0.getD 1 0,z0.getD 0 0)).1]),(4,.sc (.sl 80 (0 + (128 * k0)) ((FD49w128n0 p0) - (128 * k0)) 1 none)),(3,qp 32 0),(2,qp 0 0)],[(32,.ints .u64 8 (z4.set k4 (iAdd .u64 (z4.getD k4 0) ([(itr (FD35l3 p0 k0) 80 (z0.getD 7 0,z0.getD 6 0,z0.getD 5 0,z0.getD 4 0,z0.getD 3 0,z0.getD 2 0,z0.getD 1 0,z0.getD 0 0)).2.2.2.2.2.2.2,(itr (FD35l3 p0 k0) 80 (z0.getD 7 0,z0.getD 6 0,z0.getD 5 0,z0.getD 4 0,z0.getD 3 0,z0.getD 2 0,z0.getD 1 0,z0.getD 0 0)).2.2.2.2.2.2.1,(itr (FD35l3 p0 k0) 80 (z0.getD 7 0,z0.getD 6 0,z0.getD 5 0,z0.getD 4 0,z0.getD 3 0,z0.getD 2 0,z0.getD 1 0,z0.getD 0 0)).2.2.2.2.2.1,(itr (FD35l3 p0 k0) 80 (z0.getD 7 0,z0.getD 6 0,z0.getD 5 0,z0.getD 4 0,z0.getD 3 0,z0.getD 2 0,z0.getD 1 0,z0.getD 0 0)).2.2.2.2.1,(itr (FD35l3 p0 k0) 80 (z0.getD 7 0,z0.getD 6 0,z0.getD 5 0,z0.getD 4 0,z0.getD 3 0,z0.getD 2 0,z0.getD 1 0,z0.getD 0 0)).2.2.2.1,(itr (FD35l3 p0 k0) 80 (z0.getD 7 0,z0.getD 6 0,z0.getD 5 0,z0.getD 4 0,z0.getD 3 0,z0.getD 2 0,z0.getD 1 0,z0.getD 0 0)).2.2.1,(itr (FD35l3 p0 k0) 80 (z0.getD 7 0,z0.getD 6 0,z0.getD 5 0,z0.getD 4 0,z0.getD 3 0,z0.getD 2 0,z0.getD 1 0,z0.getD 0 0)).2.1,(itr (FD35l3 p0 k0) 80 (z0.getD 7 0,z0.getD 6 0,z0.getD 5 0,z0.getD 4 0,z0.getD 3 0,z0.getD 2 0,z0.getD 1 0,z0.getD 0 0)).1].getD k4 0)))),(80,.ints .u8 (FD49w128n0 p0) (FD49w128 p0)),(0,.ints .u8 64 [0,0,0,0,0,0,0,0,0,0,0,0,0,0,0,0,0,0,0,0,0,0,0,0,0,0,0,0,0,0,0,0,0,0,0,0,0,0,0,0,0,0,0,0,0,0,0,0,0,0,0,0,0,0,0,0,0,0,0,0,0,0,0,0])])
         1056 (⟨⟨trivial,(iAdd_nat (a:=k4) (b:=1) (by omega))⟩,⟨tt,trivial⟩⟩) ?_
       repeat (refine blkP_normal ?_)
       refine countP_normal (by omega) trivial ?_
       exact Sub.ren (ns:=[(80,80),(32,32),(0,0)]) (kf:=[180,179,4,3,2]) (by kernel_rfl) (by kernel_rfl)
      ·
       have h8':=of_decide_eq_false h8
       refine Tri.exit ?_
       have hend4:k4=8:=by (have:=of_decide_eq_false h8; omega)
       subst hend4; subst hz4
       change Tri _ _ _ _ _ _
       refine rr [] none [4,3,2] [80,32,0] (TT∧((((0:Int)≤128∧(128:Int)≤(((FD49w128n0 p0) - (128 * k0):Nat):Int)∧(((FD49w128n0 p0) - (128 * k0):Nat):Int)≤(((FD49w128n0 p0) - (128 * k0):Nat):Int))∧True)∧(TT∧True)))
         ([(4,.sc (.sl 80 ((0 + (128 * k0)) + 128) (((FD49w128n0 p0) - (128 * k0)) - 128) 1 none)),(3,qp 32 0),(2,qp 0 0)],[(80,.ints .u8 (FD49w128n0 p0) (FD49w128 p0)),(32,.ints .u64 8 (itr (FD35l4 p0 k0 z0) 8 z0)),(0,.ints .u8 64 [0,0,0,0,0,0,0,0,0,0,0,0,0,0,0,0,0,0,0,0,0,0,0,0,0,0,0,0,0,0,0,0,0,0,0,0,0,0,0,0,0,0,0,0,0,0,0,0,0,0,0,0,0,0,0,0,0,0,0,0,0,0,0,0])])
         896 (⟨tt,⟨⟨(by omega),trivial⟩,⟨tt,trivial⟩⟩⟩) ?_
       repeat (refine blkP_normal ?_)
       refine countP_normal (by omega) trivial ?_
       exact Sub.ren (ns:=[(80,80),(32,32),(0,0)]) (kf:=[4,3,2]) (by kernel_rfl) (by kernel_rfl)
  ·
   have h1':=of_decide_eq_false h1
   refine Tri.exit ?_
   have hend0:k0=((FD49w128n0 p0) / 128):=by (have:=of_decide_eq_false h1; omega)
   subst hend0; subst hz0
   change Tri _ _ _ _ _ _
   refine sr [] none [23,3,2] [160,32,0] (TT∧True)
     ([(23,qp 160 0),(3,qp 32 0),(2,qp 0 0)],[(160,.ints .u8 64 [0,0,0,0,0,0,0,0,0,0,0,0,0,0,0,0,0,0,0,0,0,0,0,0,0,0,0,0,0,0,0,0,0,0,0,0,0,0,0,0,0,0,0,0,0,0,0,0,0,0,0,0,0,0,0,0,0,0,0,0,0,0,0,0]),(32,.ints .u64 8 (itr (FD35l0 p0) ((FD49w128n0 p0) / 128) ((gStarts.drop 0).take 8))),(0,.ints .u8 64 [0,0,0,0,0,0,0,0,0,0,0,0,0,0,0,0,0,0,0,0,0,0,0,0,0,0,0,0,0,0,0,0,0,0,0,0,0,0,0,0,0,0,0,0,0,0,0,0,0,0,0,0,0,0,0,0,0,0,0,0,0,0,0,0])])
     176 (⟨tt,trivial⟩) ?_
   refine Tri.seq ?_
   refine sr [] none [191,23,3,2] [160,32,0] (TT∧True)
     ([(191,qi 0),(23,qp 160 0),(3,qp 32 0),(2,qp 0 0)],[(160,.ints .u8 64 [0,0,0,0,0,0,0,0,0,0,0,0,0,0,0,0,0,0,0,0,0,0,0,0,0,0,0,0,0,0,0,0,0,0,0,0,0,0,0,0,0,0,0,0,0,0,0,0,0,0,0,0,0,0,0,0,0,0,0,0,0,0,0,0]),(32,.ints .u64 8 (itr (FD35l0 p0) ((FD49w128n0 p0) / 128) ((gStarts.drop 0).take 8))),(0,.ints .u8 64 [0,0,0,0,0,0,0,0,0,0,0,0,0,0,0,0,0,0,0,0,0,0,0,0,0,0,0,0,0,0,0,0,0,0,0,0,0,0,0,0,0,0,0,0,0,0,0,0,0,0,0,0,0,0,0,0,0,0,0,0,0,0,0,0])])
     192 (⟨tt,trivial⟩) ?_
   refine Tri.block ?_
   refine Tri.count 192 64 (FD35l5 p0) [0,0,0,0,0,0,0,0,0,0,0,0,0,0,0,0,0,0,0,0,0,0,0,0,0,0,0,0,0,0,0,0,0,0,0,0,0,0,0,0,0,0,0,0,0,0,0,0,0,0,0,0,0,0,0,0,0,0,0,0,0,0,0,0] (fun k5 z5 => True) (fun k5 z5 => ([(191,qi (k5:Int)),(23,qp 160 0),(3,qp 32 0),(2,qp 0 0)],[(160,.ints .u8 64 z5),(32,.ints .u64 8 (itr (FD35l0 p0) ((FD49w128n0 p0) / 128) ((gStarts.drop 0).take 8))),(0,.ints .u8 64 [0,0,0,0,0,0,0,0,0,0,0,0,0,0,0,0,0,0,0,0,0,0,0,0,0,0,0,0,0,0,0,0,0,0,0,0,0,0,0,0,0,0,0,0,0,0,0,0,0,0,0,0,0,0,0,0,0,0,0,0,0,0,0,0])])) trivial (Sub.of_eq (by kernel_rfl)) ?_
   intro k5 z5 hk5 hz5 hJ5
   refine sr [] none [192,191,23,3,2] [160,32,0] (TT∧True)
     ([(192,.sc (.b (decide (((k5:Int):Int) < 64)))),(191,qi (k5:Int)),(23,qp 160 0),(3,qp 32 0),(2,qp 0 0)],[(160,.ints .u8 64 z5),(32,.ints .u64 8 (itr (FD35l0 p0) ((FD49w128n0 p0) / 128) ((gStarts.drop 0).take 8))),(0,.ints .u8 64 [0,0,0,0,0,0,0,0,0,0,0,0,0,0,0,0,0,0,0,0,0,0,0,0,0,0,0,0,0,0,0,0,0,0,0,0,0,0,0,0,0,0,0,0,0,0,0,0,0,0,0,0,0,0,0,0,0,0,0,0,0,0,0,0])])
     208 (⟨tt,trivial⟩) ?_
   refine Tri.seq ?_
   refine Tri.cond (x:=(decide (((k5:Int):Int) < 64))) (by kernel_rfl) (fun h9 => ?_) (fun h9 => ?_)
   ·
    have h9':=of_decide_eq_true h9
    refine Tri.skip ?_
    change Tri _ _ _ _ _ _
    refine Tri.seq ?_
    refine Tri.block ?_
    refine sr [] none [24,191,23,3,2] [160,32,0] (TT∧(TT∧True))
      ([(24,qi (k5:Int)),(191,qi (k5:Int)),(23,qp 160 0),(3,qp 32 0),(2,qp 0 0)],[(160,.ints .u8 64 z5),(32,.ints .u64 8 (itr (FD35l0 p0) ((FD49w128n0 p0) / 128) ((gStarts.drop 0).take 8))),(0,.ints .u8 64 [0,0,0,0,0,0,0,0,0,0,0,0,0,0,0,0,0,0,0,0,0,0,0,0,0,0,0,0,0,0,0,0,0,0,0,0,0,0,0,0,0,0,0,0,0,0,0,0,0,0,0,0,0,0,0,0,0,0,0,0,0,0,0,0])])
      240 (⟨tt,⟨tt,trivial⟩⟩) ?_
    refine rr [(196,.i .i64 ((k5 / 8:Nat):Int)),(200,.i .i64 ((k5 % 8:Nat):Int)),(201,.i .i64 ((8 * (k5 % 8):Nat):Int)),(202,.i .i64 ((56 - (8 * (k5 % 8)):Nat):Int))] none [191,23,3,2] [160,32,0] (TT∧(TT∧(((8 ≠ (0:Int))∧((iQuo .i64 (k5:Int) 8)=((k5 / 8:Nat):Int)))∧((((0:Int)≤((k5 / 8:Nat):Int)∧((k5 / 8:Nat):Int) < ((8:Nat):Int))∧True)∧(((k5 / 8 < 8)∧True)∧(TT∧(((8 ≠ (0:Int))∧((iRem (k5:Int) 8)=((k5 % 8:Nat):Int)))∧((True∧((iMul .i64 8 ((k5 % 8:Nat):Int))=((8 * (k5 % 8):Nat):Int)))∧((True∧((iSub .i64 56 ((8 * (k5 % 8):Nat):Int))=((56 - (8 * (k5 % 8)):Nat):Int)))∧((((0:Int)≤((56 - (8 * (k5 % 8)):Nat):Int))∧True)∧(TT∧((((0:Int)≤(k5:Int)∧(k5:Int) < ((64:Nat):Int))∧True)∧((((k5 < 64)∧(1=1))∧True)∧True)))))))))))))
      ([(191,qi (k5:Int)),(23,qp 160 0),(3,qp 32 0),(2,qp 0 0)],[(160,.ints .u8 64 (z5.set k5 (IntKind.wrap .u8 (iShr .u64 ((itr (FD35l0 p0) ((FD49w128n0 p0) / 128) ((gStarts.drop 0).take 8)).getD (k5 / 8) 0) ((56 - (8 * (k5 % 8)):Nat):Int))))),(32,.ints .u64 8 (itr (FD35l0 p0) ((FD49w128n0 p0) / 128) ((gStarts.drop 0).take 8))),(0,.ints .u8 64 [0,0,0,0,0,0,0,0,0,0,0,0,0,0,0,0,0,0,0,0,0,0,0,0,0,0,0,0,0,0,0,0,0,0,0,0,0,0,0,0,0,0,0,0,0,0,0,0,0,0,0,0,0,0,0,0,0,0,0,0,0,0,0,0])])
      448 (⟨tt,⟨tt,⟨⟨(by omega),(iQuo_nat (a:=k5) (b:=8) (by omega))⟩,⟨⟨(by omega),trivial⟩,⟨⟨(by omega),trivial⟩,⟨tt,⟨⟨(by omega),(iRem_nat (a:=k5) (b:=8))⟩,⟨⟨trivial,(iMul_nat (a:=8) (b:=k5 % 8) (by omega))⟩,⟨⟨trivial,(iSub_nat (a:=56) (b:=8 * (k5 % 8)) (by omega) (by omega))⟩,⟨⟨(by omega),trivial⟩,⟨tt,⟨⟨(by omega),trivial⟩,⟨⟨⟨(by omega),(rfl)⟩,trivial⟩,trivial⟩⟩⟩⟩⟩⟩⟩⟩⟩⟩⟩⟩⟩) ?_
    change Tri _ _ _ _ _ _
    refine rr [(206,.i .i64 ((k5 + 1:Nat):Int))] none [191,23,3,2] [160,32,0] ((True∧((iAdd .i64 (k5:Int) 1)=((k5 + 1:Nat):Int)))∧(TT∧True))
      ([(191,qi ((k5 + 1:Nat):Int)),(23,qp 160 0),(3,qp 32 0),(2,qp 0 0)],[(160,.ints .u8 64 (z5.set k5 (IntKind.wrap .u8 (iShr .u64 ((itr (FD35l0 p0) ((FD49w128n0 p0) / 128) ((gStarts.drop 0).take 8)).getD (k5 / 8) 0) ((56 - (8 * (k5 % 8)):Nat):Int))))),(32,.ints .u64 8 (itr (FD35l0 p0) ((FD49w128n0 p0) / 128) ((gStarts.drop 0).take 8))),(0,.ints .u8 64 [0,0,0,0,0,0,0,0,0,0,0,0,0,0,0,0,0,0,0,0,0,0,0,0,0,0,0,0,0,0,0,0,0,0,0,0,0,0,0,0,0,0,0,0,0,0,0,0,0,0,0,0,0,0,0,0,0,0,0,0,0,0,0,0])])
      480 (⟨⟨trivial,(iAdd_nat (a:=k5) (b:=1) (by omega))⟩,⟨tt,trivial⟩⟩) ?_
    repeat (refine blkP_normal ?_)
    refine countP_normal (by omega) trivial ?_
    exact Sub.ren (ns:=[(160,160),(32,32),(0,0)]) (kf:=[191,23,3,2]) (by kernel_rfl) (by kernel_rfl)
   ·
    have h9':=of_decide_eq_false h9
    refine Tri.exit ?_
    have hend5:k5=64:=by (have:=of_decide_eq_false h9; omega)
    subst hend5; subst hz5
    change Tri _ _ _ _ _ _
    refine sr [] none [2] [0] (TT∧(((True∧(64=64))∧True)∧True))
      ([(2,qp 0 0)],[(0,.ints .u8 64 (itr (FD35l5 p0) 64 [0,0,0,0,0,0,0,0,0,0,0,0,0,0,0,0,0,0,0,0,0,0,0,0,0,0,0,0,0,0,0,0,0,0,0,0,0,0,0,0,0,0,0,0,0,0,0,0,0,0,0,0,0,0,0,0,0,0,0,0,0,0,0,0]))])
      240 (⟨tt,⟨⟨⟨trivial,(rfl)⟩,trivial⟩,trivial⟩⟩) ?_
    refine Tri.ret ?_
    exact endP.ret [] TT (by kernel_rfl) (by kernel_rfl) (by kernel_rfl) tt
end Go.Vm
set_option linter.unusedVariables false
set_option linter.unusedSimpArgs false
set_option maxRecDepth 4000
namespace Go.Vm
open Go
noncomputable def SD52:List AV→Option (Prop × Ret)
 | [] => some (True,⟨.ints .u64 8 [7640891576956012808,13503953896175478587,4354685564936845355,11912009170470909681,5840696475078001361,11170449401992604703,2270897969802886507,6620516959819538809],[]⟩)
 | _ => none
noncomputable def BD52:Bs:={ P:=Go.Proofs.Tryd.prog,G:=gD,tab:=tabOf [],n:=2 }
theorem BD52.ok:BD52.Ok:=⟨tabOk (P:=Go.Proofs.Tryd.prog) (G:=gD) (l:=[]) True.intro,mixed⟩
theorem KD52:Known Go.Proofs.Tryd.prog gD 58 ⟨[],0,SD52⟩:=by
 refine Known.walk (B:=BD52) (fn:=Go.Proofs.Tryd.f58) BD52.ok (by kernel_rfl) rfl (by kernel_rfl) (by kernel_rfl) (by decide) ?_ ?_
 ·intro vs C r h
  simp only at h
  unfold SD52 at h
  split at h
  ·cases h; rfl
  ·cases h
 ·intro E args C r h hC hlen
  simp only at h
  unfold SD52 at h
  split at h
  rotate_left
  ·cases h
  skip
  cases h
  simp only [lens] at hlen
  refine ⟨show 0≤2 from by decide,?_⟩
  refine Tri.sub (Sub.of_eq (show _=([],[]) from rfl)) ?_
  refine sr [] none [0] [0] (TT∧True)
    ([(0,qp 0 0)],[(0,.ints .u64 8 [0,0,0,0,0,0,0,0])])
    16 (⟨tt,trivial⟩) ?_
  refine sr [] none [0] [0] (((((0 < 8)∧(1=1))∧(((1 < 8)∧(1=1))∧(((2 < 8)∧(1=1))∧(((3 < 8)∧(1=1))∧(((4 < 8)∧(1=1))∧(((5 < 8)∧(1=1))∧(((6 < 8)∧(1=1))∧(((7 < 8)∧(1=1))∧True))))))))∧True)∧(((True∧(8=8))∧True)∧True))
    ([(0,qp 0 0)],[(0,.ints .u64 8 [7640891576956012808,13503953896175478587,4354685564936845355,11912009170470909681,5840696475078001361,11170449401992604703,2270897969802886507,6620516959819538809])])
    48 (⟨⟨⟨⟨(by omega),(rfl)⟩,⟨⟨(by omega),(rfl)⟩,⟨⟨(by omega),(rfl)⟩,⟨⟨(by omega),(rfl)⟩,⟨⟨(by omega),(rfl)⟩,⟨⟨(by omega),(rfl)⟩,⟨⟨(by omega),(rfl)⟩,⟨⟨(by omega),(rfl)⟩,trivial⟩⟩⟩⟩⟩⟩⟩⟩,trivial⟩,⟨⟨⟨trivial,(rfl)⟩,trivial⟩,trivial⟩⟩) ?_
  refine Tri.ret ?_
  exact endP.ret [] TT (by kernel_rfl) (by kernel_rfl) (by kernel_rfl) tt
noncomputable def FD53:List Int :=
 [4794697086780616226,8158064640168781261,13096744586834688815,16840607885511220156,4131703408338449720,6480981068601479193,10538285296894168987,12329834152419229976,15566598209576043074,1334009975649890238,2608012711638119052,6128411473006802146,8268148722764581231,9286055187155687089,11230858885718282805,13951009754708518548,16472876342353939154,17275323862435702243,1135362057144423861,2597628984639134821,3308224258029322869,5365058923640841347,6679025012923562964,8573033837759648693,10970295158949994411,12119686244451234320,12683024718118986047,13788192230050041572,14330467153632333762,15395433587784984357,489312712824947311,1452737877330783856,2861767655752347644,3322285676063803686,5560940570517711597,5996557281743188959,7280758554555802590,8532644243296465576,9350256976987008742,10552545826968843579,11727347734174303076,12113106623233404929,14000437183269869457,14369950271660146224,15101387698204529176,15463397548674623760,17586052441742319658,1182934255886127544,1847814050463011016,2177327727835720531,2830643537854262169,3796741975233480872,4115178125766777443,5681478168544905931,6601373596472566643,7507060721942968483,8399075790359081724,8693463985226723168,9568029438360202098,10144078919501101548,10430055236837252648,11840083180663258601,13761210420658862357,14299343276471374635,14566680578165727644,15097957966210449927,16922976911328602910,17689382322260857208,500013540394364858,748580250866718886,1242879168328830382,1977374033974150939,2944078676154940804,3659926193048069267,4368137639120453308,4836135668995329356,5532061633213252278,6448918945643986474,6902733635092675308,7801388544844847127]
noncomputable def SD53:List AV→Option (Prop × Ret)
 | [] => some (True,⟨.ints .u64 80 (FD53),[]⟩)
 | _ => none
noncomputable def BD53:Bs:={ P:=Go.Proofs.Tryd.prog,G:=gD,tab:=tabOf [],n:=2 }
theorem BD53.ok:BD53.Ok:=⟨tabOk (P:=Go.Proofs.Tryd.prog) (G:=gD) (l:=[]) True.intro,mixed⟩
theorem KD53:Known Go.Proofs.Tryd.prog gD 59 ⟨[],0,SD53⟩:=by
 refine Known.walk (B:=BD53) (fn:=Go.Proofs.Tryd.f59) BD53.ok (by kernel_rfl) rfl (by kernel_rfl) (by kernel_rfl) (by decide) ?_ ?_
 ·intro vs C r h
  simp only at h
  unfold SD53 at h
  split at h
  ·cases h; rfl
  ·cases h
 ·intro E args C r h hC hlen
  simp only at h
  unfold SD53 at h
  split at h
  rotate_left
  ·cases h
  skip
  cases h
  simp only [lens] at hlen
  refine ⟨show 0≤2 from by decide,?_⟩
  refine Tri.sub (Sub.of_eq (show _=([],[]) from rfl)) ?_
  refine sr [] none [0] [0] (TT∧True)
    ([(0,qp 0 0)],[(0,.ints .u64 80 [0,0,0,0,0,0,0,0,0,0,0,0,0,0,0,0,0,0,0,0,0,0,0,0,0,0,0,0,0,0,0,0,0,0,0,0,0,0,0,0,0,0,0,0,0,0,0,0,0,0,0,0,0,0,0,0,0,0,0,0,0,0,0,0,0,0,0,0,0,0,0,0,0,0,0,0,0,0,0,0])])
    16 (⟨tt,trivial⟩) ?_
  refine sr [] none [0] [0] (((((0 < 80)∧(1=1))∧(((1 < 80)∧(1=1))∧(((2 < 80)∧(1=1))∧(((3 < 80)∧(1=1))∧(((4 < 80)∧(1=1))∧(((5 < 80)∧(1=1))∧(((6 < 80)∧(1=1))∧(((7 < 80)∧(1=1))∧(((8 < 80)∧(1=1))∧(((9 < 80)∧(1=1))∧(((10 < 80)∧(1=1))∧(((11 < 80)∧(1=1))∧(((12 < 80)∧(1=1))∧(((13 < 80)∧(1=1))∧(((14 < 80)∧(1=1))∧(((15 < 80)∧(1=1))∧(((16 < 80)∧(1=1))∧(((17 < 80)∧(1=1))∧(((18 < 80)∧(1=1))∧(((19 < 80)∧(1=1))∧(((20 < 80)∧(1=1))∧(((21 < 80)∧(1=1))∧(((22 < 80)∧(1=1))∧(((23 < 80)∧(1=1))∧(((24 < 80)∧(1=1))∧(((25 < 80)∧(1=1))∧(((26 < 80)∧(1=1))∧(((27 < 80)∧(1=1))∧(((28 < 80)∧(1=1))∧(((29 < 80)∧(1=1))∧(((30 < 80)∧(1=1))∧(((31 < 80)∧(1=1))∧(((32 < 80)∧(1=1))∧(((33 < 80)∧(1=1))∧(((34 < 80)∧(1=1))∧(((35 < 80)∧(1=1))∧(((36 < 80)∧(1=1))∧(((37 < 80)∧(1=1))∧(((38 < 80)∧(1=1))∧(((39 < 80)∧(1=1))∧(((40 < 80)∧(1=1))∧(((41 < 80)∧(1=1))∧(((42 < 80)∧(1=1))∧(((43 < 80)∧(1=1))∧(((44 < 80)∧(1=1))∧(((45 < 80)∧(1=1))∧(((46 < 80)∧(1=1))∧(((47 < 80)∧(1=1))∧(((48 < 80)∧(1=1))∧(((49 < 80)∧(1=1))∧(((50 < 80)∧(1=1))∧(((51 < 80)∧(1=1))∧(((52 < 80)∧(1=1))∧(((53 < 80)∧(1=1))∧(((54 < 80)∧(1=1))∧(((55 < 80)∧(1=1))∧(((56 < 80)∧(1=1))∧(((57 < 80)∧(1=1))∧(((58 < 80)∧(1=1))∧(((59 < 80)∧(1=1))∧(((60 < 80)∧(1=1))∧(((61 < 80)∧(1=1))∧(((62 < 80)∧(1=1))∧(((63 < 80)∧(1=1))∧(((64 < 80)∧(1=1))∧(((65 < 80)∧(1=1))∧(((66 < 80)∧(1=1))∧(((67 < 80)∧(1=1))∧(((68 < 80)∧(1=1))∧(((69 < 80)∧(1=1))∧(((70 < 80)∧(1=1))∧(((71 < 80)∧(1=1))∧(((72 < 80)∧(1=1))∧(((73 < 80)∧(1=1))∧(((74 < 80)∧(1=1))∧(((75 < 80)∧(1=1))∧(((76 < 80)∧(1=1))∧(((77 < 80)∧(1=1))∧(((78 < 80)∧(1=1))∧(((79 < 80)∧(1=1))∧True))))))))))))))))))))))))))))))))))))))))))))))))))))))))))))))))))))))))))))))))∧True)∧(((True∧(80=80))∧True)∧True))
    ([(0,qp 0 0)],[(0,.ints .u64 80 [4794697086780616226,8158064640168781261,13096744586834688815,16840607885511220156,4131703408338449720,6480981068601479193,10538285296894168987,12329834152419229976,15566598209576043074,1334009975649890238,2608012711638119052,6128411473006802146,8268148722764581231,9286055187155687089,11230858885718282805,13951009754708518548,16472876342353939154,17275323862435702243,1135362057144423861,2597628984639134821,3308224258029322869,5365058923640841347,6679025012923562964,8573033837759648693,10970295158949994411,12119686244451234320,12683024718118986047,13788192230050041572,14330467153632333762,15395433587784984357,489312712824947311,1452737877330783856,2861767655752347644,3322285676063803686,5560940570517711597,5996557281743188959,7280758554555802590,8532644243296465576,9350256976987008742,10552545826968843579,11727347734174303076,12113106623233404929,14000437183269869457,14369950271660146224,15101387698204529176,15463397548674623760,17586052441742319658,1182934255886127544,1847814050463011016,2177327727835720531,2830643537854262169,3796741975233480872,4115178125766777443,5681478168544905931,6601373596472566643,7507060721942968483,8399075790359081724,8693463985226723168,9568029438360202098,10144078919501101548,10430055236837252648,11840083180663258601,13761210420658862357,14299343276471374635,14566680578165727644,15097957966210449927,16922976911328602910,17689382322260857208,500013540394364858,748580250866718886,1242879168328830382,1977374033974150939,2944078676154940804,3659926193048069267,4368137639120453308,4836135668995329356,5532061633213252278,6448918945643986474,6902733635092675308,7801388544844847127])])
    48 (⟨⟨⟨⟨(by omega),(rfl)⟩,⟨⟨(by omega),(rfl)⟩,⟨⟨(by omega),(rfl)⟩,⟨⟨(by omega),(rfl)⟩,⟨⟨(by omega),(rfl)⟩,⟨⟨(by omega),(rfl)⟩,⟨⟨(by omega),(rfl)⟩,⟨⟨(by omega),(rfl)⟩,⟨⟨(by omega),(rfl)⟩,⟨⟨(by omega),(rfl)⟩,⟨⟨(by omega),(rfl)⟩,⟨⟨(by omega),(rfl)⟩,⟨⟨(by omega),(rfl)⟩,⟨⟨(by omega),(rfl)⟩,⟨⟨(by omega),(rfl)⟩,⟨⟨(by omega),(rfl)⟩,⟨⟨(by omega),(rfl)⟩,⟨⟨(by omega),(rfl)⟩,⟨⟨(by omega),(rfl)⟩,⟨⟨(by omega),(rfl)⟩,⟨⟨(by omega),(rfl)⟩,⟨⟨(by omega),(rfl)⟩,⟨⟨(by omega),(rfl)⟩,⟨⟨(by omega),(rfl)⟩,⟨⟨(by omega),(rfl)⟩,⟨⟨(by omega),(rfl)⟩,⟨⟨(by omega),(rfl)⟩,⟨⟨(by omega),(rfl)⟩,⟨⟨(by omega),(rfl)⟩,⟨⟨(by omega),(rfl)⟩,⟨⟨(by omega),(rfl)⟩,⟨⟨(by omega),(rfl)⟩,⟨⟨(by omega),(rfl)⟩,⟨⟨(by omega),(rfl)⟩,⟨⟨(by omega),(rfl)⟩,⟨⟨(by omega),(rfl)⟩,⟨⟨(by omega),(rfl)⟩,⟨⟨(by omega),(rfl)⟩,⟨⟨(by omega),(rfl)⟩,⟨⟨(by omega),(rfl)⟩,⟨⟨(by omega),(rfl)⟩,⟨⟨(by omega),(rfl)⟩,⟨⟨(by omega),(rfl)⟩,⟨⟨(by omega),(rfl)⟩,⟨⟨(by omega),(rfl)⟩,⟨⟨(by omega),(rfl)⟩,⟨⟨(by omega),(rfl)⟩,⟨⟨(by omega),(rfl)⟩,⟨⟨(by omega),(rfl)⟩,⟨⟨(by omega),(rfl)⟩,⟨⟨(by omega),(rfl)⟩,⟨⟨(by omega),(rfl)⟩,⟨⟨(by omega),(rfl)⟩,⟨⟨(by omega),(rfl)⟩,⟨⟨(by omega),(rfl)⟩,⟨⟨(by omega),(rfl)⟩,⟨⟨(by omega),(rfl)⟩,⟨⟨(by omega),(rfl)⟩,⟨⟨(by omega),(rfl)⟩,⟨⟨(by omega),(rfl)⟩,⟨⟨(by omega),(rfl)⟩,⟨⟨(by omega),(rfl)⟩,⟨⟨(by omega),(rfl)⟩,⟨⟨(by omega),(rfl)⟩,⟨⟨(by omega),(rfl)⟩,⟨⟨(by omega),(rfl)⟩,⟨⟨(by omega),(rfl)⟩,⟨⟨(by omega),(rfl)⟩,⟨⟨(by omega),(rfl)⟩,⟨⟨(by omega),(rfl)⟩,⟨⟨(by omega),(rfl)⟩,⟨⟨(by omega),(rfl)⟩,⟨⟨(by omega),(rfl)⟩,⟨⟨(by omega),(rfl)⟩,⟨⟨(by omega),(rfl)⟩,⟨⟨(by omega),(rfl)⟩,⟨⟨(by omega),(rfl)⟩,⟨⟨(by omega),(rfl)⟩,⟨⟨(by omega),(rfl)⟩,⟨⟨(by omega),(rfl)⟩,trivial⟩⟩⟩⟩⟩⟩⟩⟩⟩⟩⟩⟩⟩⟩⟩⟩⟩⟩⟩⟩⟩⟩⟩⟩⟩⟩⟩⟩⟩⟩⟩⟩⟩⟩⟩⟩⟩⟩⟩⟩⟩⟩⟩⟩⟩⟩⟩⟩⟩⟩⟩⟩⟩⟩⟩⟩⟩⟩⟩⟩⟩⟩⟩⟩⟩⟩⟩⟩⟩⟩⟩⟩⟩⟩⟩⟩⟩⟩⟩⟩,trivial⟩,⟨⟨⟨trivial,(rfl)⟩,trivial⟩,trivial⟩⟩) ?_
  refine Tri.ret ?_
  exact endP.ret [] TT (by kernel_rfl) (by kernel_rfl) (by kernel_rfl) tt
noncomputable def FD60w64 (p0:Int) (p1:Int):Int :=
 (iAdd .u64 (iShr .u64 p0 p1) (iShl .u64 p0 (iSub .i64 64 p1)))
noncomputable def SD60w64:List AV→Option (Prop × Ret)
 | [.sc (.i .u64 p0),.sc (.i .i64 p1),.sc (.i .i64 64)] => some ((0:Int)≤p1∧p1≤64,⟨.sc (.i .u64 (FD60w64 p0 p1)),[]⟩)
 | _ => none
noncomputable def BD60w64:Bs:={ P:=Go.Proofs.Tryd.prog,G:=gD,tab:=tabOf [],n:=26 }
theorem BD60w64.ok:BD60w64.Ok:=⟨tabOk (P:=Go.Proofs.Tryd.prog) (G:=gD) (l:=[]) True.intro,mixed⟩
theorem KD60w64:Known Go.Proofs.Tryd.prog gD 78 ⟨[.val,.val,.val],0,SD60w64⟩:=by
 refine Known.walk (B:=BD60w64) (fn:=Go.Proofs.Tryd.f78) BD60w64.ok (by kernel_rfl) rfl (by kernel_rfl) (by kernel_rfl) (by decide) ?_ ?_
 ·intro vs C r h
  simp only at h
  unfold SD60w64 at h
  split at h
  ·cases h; rfl
  ·cases h
 ·intro E args C r h hC hlen
  simp only at h
  unfold SD60w64 at h
  split at h
  rotate_left
  ·cases h
  rename_i p0 p1
  cases h
  simp only [lens] at hlen
  refine ⟨show 3≤26 from by decide,?_⟩
  refine Tri.sub (Sub.of_eq (show _=([(0,.sc (.i .u64 p0)),(1,qi p1),(2,qi 64)],[]) from rfl)) ?_
  refine sr [] none [0,1,2] [] (TT∧True)
    ([(0,.sc (.i .u64 p0)),(1,qi p1),(2,qi 64)],[])
    16 (⟨tt,trivial⟩) ?_
  refine Tri.seq ?_
  refine sr [] none [8,0,1] [] (TT∧(TT∧True))
    ([(8,.sc (.b true)),(0,.sc (.i .u64 p0)),(1,qi p1)],[])
    48 (⟨tt,⟨tt,trivial⟩⟩) ?_
  refine Tri.cond_true (by kernel_rfl) ?_
  refine sr [] (some [0,0,3,0,0,16,56,127,255]) [6] [] (TT∧(TT∧((((0:Int)≤p1)∧True)∧(TT∧(TT∧(TT∧((((0:Int)≤(iSub .i64 64 p1))∧True)∧(TT∧(TT∧True)))))))))
    ([(6,.sc (.i .u64 (iAdd .u64 (iShr .u64 p0 p1) (iShl .u64 p0 (iSub .i64 64 p1)))))],[])
    192 (⟨tt,⟨tt,⟨⟨(by first | omega | (rw [adr_eq]; omega) | exact iAnd_nn _ _ | exact iSub_nn _ _ | exact part1_le (by omega) (by first | omega | (simp only [List.length_append]; omega)) | (rw [iMul_i64 (by omega) (by omega)]; omega) | decide),trivial⟩,⟨tt,⟨tt,⟨tt,⟨⟨(by first | omega | (unfold iSub; rw [wrap_small (by omega) (by omega)]; omega) | exact iAnd_nn _ _ | exact iSub_nn _ _),trivial⟩,⟨tt,⟨tt,trivial⟩⟩⟩⟩⟩⟩⟩⟩⟩) ?_
  refine Tri.ret ?_
  repeat (first | refine thenP_ret ?_ | refine blkP_ret ?_ | refine countP_ret ?_ | refine joinP_ret ?_)
  exact endP.ret [] TT (by kernel_rfl) (by kernel_rfl) (by kernel_rfl) tt
def turns (w:Int) (t:List Int):Prop:=(0≤t.getD 0 0∧t.getD 0 0≤w)∧(0≤t.getD 1 0∧t.getD 1 0≤w)∧(0≤t.getD 2 0∧t.getD 2 0≤w)
noncomputable def FD54w64 (p0:Int) (p1:List Int) (p2:Bool):Int :=
 (sel p2 (iXor .u64 (iXor .u64 (FD60w64 p0 (p1.getD 0 0)) (FD60w64 p0 (p1.getD 1 0))) (iShr .u64 p0 (p1.getD 2 0))) (iXor .u64 (iXor .u64 (FD60w64 p0 (p1.getD 0 0)) (FD60w64 p0 (p1.getD 1 0))) (FD60w64 p0 (p1.getD 2 0))))
noncomputable def SD54w64:List AV→Option (Prop × Ret)
 | [.sc (.i .u64 p0),.ints .i64 3 p1,.sc (.b p2),.sc (.i .i64 64)] => some (turns 64 p1,⟨.sc (.i .u64 (FD54w64 p0 p1 p2)),[]⟩)
 | _ => none
noncomputable def BD54w64:Bs:={ P:=Go.Proofs.Tryd.prog,G:=gD,tab:=tabOf [(78,⟨[.val,.val,.val],0,SD60w64⟩)],n:=35 }
theorem BD54w64.ok:BD54w64.Ok:=⟨tabOk (P:=Go.Proofs.Tryd.prog) (G:=gD) (l:=[(78,⟨[.val,.val,.val],0,SD60w64⟩)]) (And.intro KD60w64 True.intro),mixed⟩
theorem KD54w64:Known Go.Proofs.Tryd.prog gD 60 ⟨[.val,.val,.val,.val],0,SD54w64⟩:=by
 refine Known.walk (B:=BD54w64) (fn:=Go.Proofs.Tryd.f60) BD54w64.ok (by kernel_rfl) rfl (by kernel_rfl) (by kernel_rfl) (by decide) ?_ ?_
 ·intro vs C r h
  simp only at h
  unfold SD54w64 at h
  split at h
  ·cases h; rfl
  ·cases h
 ·intro E args C r h hC hlen
  simp only at h
  unfold SD54w64 at h
  split at h
  rotate_left
  ·cases h
  rename_i p0 p1 p2
  cases h
  simp only [lens] at hlen
  have hf1:=hC.1
  have hf2:=hC.2.1
  have hf3:=hC.2.2
  refine ⟨show 4≤35 from by decide,?_⟩
  refine Tri.sub (Sub.of_eq (show _=([(0,.sc (.i .u64 p0)),(1,.ints .i64 3 p1),(2,.sc (.b p2)),(3,qi 64)],[]) from rfl)) ?_
  refine sr [] none [5,0,2,3] [0] (TT∧(TT∧True))
    ([(5,qp 0 0),(0,.sc (.i .u64 p0)),(2,.sc (.b p2)),(3,qi 64)],[(0,.ints .i64 3 p1)])
    32 (⟨tt,⟨tt,trivial⟩⟩) ?_
  refine Tri.len 0 rfl (fun hl1 => ?_)
  refine sr [] (some [0,0,2,0,15,0,0,64,0,511,1023,2047]) [9,5,0,2,3] [0] (TT∧((((0:Int)≤0∧0 < ((3:Nat):Int))∧True)∧(((0 < 3)∧True)∧(TT∧(((True∧((0:Int)≤(p1.getD 0 0)∧(p1.getD 0 0)≤64))∧True)∧(TT∧((((0:Int)≤1∧1 < ((3:Nat):Int))∧True)∧(((1 < 3)∧True)∧(TT∧(((True∧((0:Int)≤(p1.getD 1 0)∧(p1.getD 1 0)≤64))∧True)∧(TT∧(TT∧True))))))))))))
    ([(9,.sc (.i .u64 (iXor .u64 (FD60w64 p0 (p1.getD 0 0)) (FD60w64 p0 (p1.getD 1 0))))),(5,qp 0 0),(0,.sc (.i .u64 p0)),(2,.sc (.b p2)),(3,qi 64)],[(0,.ints .i64 3 p1)])
    224 (⟨tt,⟨⟨(by first | omega | (rw [adr_eq]; omega) | exact iAnd_nn _ _ | exact iSub_nn _ _ | exact part1_le (by omega) (by first | omega | (simp only [List.length_append]; omega)) | (rw [iMul_i64 (by omega) (by omega)]; omega) | decide),trivial⟩,⟨⟨(by omega),trivial⟩,⟨tt,⟨⟨⟨trivial,(by first | omega | (rw [adr_eq]; omega) | exact iAnd_nn _ _ | exact iSub_nn _ _ | exact part1_le (by omega) (by first | omega | (simp only [List.length_append]; omega)) | (rw [iMul_i64 (by omega) (by omega)]; omega) | decide)⟩,trivial⟩,⟨tt,⟨⟨(by first | omega | (rw [adr_eq]; omega) | exact iAnd_nn _ _ | exact iSub_nn _ _ | exact part1_le (by omega) (by first | omega | (simp only [List.length_append]; omega)) | (rw [iMul_i64 (by omega) (by omega)]; omega) | decide),trivial⟩,⟨⟨(by omega),trivial⟩,⟨tt,⟨⟨⟨trivial,(by first | omega | (rw [adr_eq]; omega) | exact iAnd_nn _ _ | exact iSub_nn _ _ | exact part1_le (by omega) (by first | omega | (simp only [List.length_append]; omega)) | (rw [iMul_i64 (by omega) (by omega)]; omega) | decide)⟩,trivial⟩,⟨tt,⟨tt,trivial⟩⟩⟩⟩⟩⟩⟩⟩⟩⟩⟩⟩) ?_
  refine Tri.seq ?_
  refine sr [] none [21,9,5,0,3] [0] (TT∧True)
    ([(21,.sc (.b p2)),(9,.sc (.i .u64 (iXor .u64 (FD60w64 p0 (p1.getD 0 0)) (FD60w64 p0 (p1.getD 1 0))))),(5,qp 0 0),(0,.sc (.i .u64 p0)),(3,qi 64)],[(0,.ints .i64 3 p1)])
    240 (⟨tt,trivial⟩) ?_
  refine Tri.cond (x:=p2) (by kernel_rfl) (fun h2 => ?_) (fun h2 => ?_)
  ·
   refine Tri.len 0 rfl (fun hl3 => ?_)
   refine sr [] none [8] [] (TT∧(TT∧((((0:Int)≤2∧2 < ((3:Nat):Int))∧True)∧(((2 < 3)∧True)∧((((0:Int)≤p1.getD 2 0)∧True)∧(TT∧(TT∧True)))))))
     ([(8,.sc (.i .u64 (iXor .u64 (iXor .u64 (FD60w64 p0 (p1.getD 0 0)) (FD60w64 p0 (p1.getD 1 0))) (iShr .u64 p0 (p1.getD 2 0)))))],[])
     352 (⟨tt,⟨tt,⟨⟨(by first | omega | (rw [adr_eq]; omega) | exact iAnd_nn _ _ | exact iSub_nn _ _ | exact part1_le (by omega) (by first | omega | (simp only [List.length_append]; omega)) | (rw [iMul_i64 (by omega) (by omega)]; omega) | decide),trivial⟩,⟨⟨(by omega),trivial⟩,⟨⟨(by omega),trivial⟩,⟨tt,⟨tt,trivial⟩⟩⟩⟩⟩⟩⟩) ?_
   refine Tri.ret ?_
   repeat (first | refine thenP_ret ?_ | refine blkP_ret ?_ | refine countP_ret ?_ | refine joinP_ret ?_)
   refine endP.conv (r':=⟨.sc (.i .u64 (iXor .u64 (iXor .u64 (FD60w64 p0 (p1.getD 0 0)) (FD60w64 p0 (p1.getD 1 0))) (iShr .u64 p0 (p1.getD 2 0)))),[]⟩) (by simp only [FD54w64,h2,sel_true,sel_false]) ?_
   exact endP.ret [] TT (by kernel_rfl) (by kernel_rfl) (by kernel_rfl) tt
  ·
   refine Tri.skip ?_
   change Tri _ _ _ _ _ _
   refine Tri.len 0 rfl (fun hl4 => ?_)
   refine sr [] none [8] [] (TT∧(TT∧((((0:Int)≤2∧2 < ((3:Nat):Int))∧True)∧(((2 < 3)∧True)∧(TT∧(((True∧((0:Int)≤(p1.getD 2 0)∧(p1.getD 2 0)≤64))∧True)∧(TT∧(TT∧True))))))))
     ([(8,.sc (.i .u64 (iXor .u64 (iXor .u64 (FD60w64 p0 (p1.getD 0 0)) (FD60w64 p0 (p1.getD 1 0))) (FD60w64 p0 (p1.getD 2 0)))))],[])
     368 (⟨tt,⟨tt,⟨⟨(by first | omega | (rw [adr_eq]; omega) | exact iAnd_nn _ _ | exact iSub_nn _ _ | exact part1_le (by omega) (by first | omega | (simp only [List.length_append]; omega)) | (rw [iMul_i64 (by omega) (by omega)]; omega) | decide),trivial⟩,⟨⟨(by omega),trivial⟩,⟨tt,⟨⟨⟨trivial,(by first | omega | (rw [adr_eq]; omega) | exact iAnd_nn _ _ | exact iSub_nn _ _ | exact part1_le (by omega) (by first | omega | (simp only [List.length_append]; omega)) | (rw [iMul_i64 (by omega) (by omega)]; omega) | decide)⟩,trivial⟩,⟨tt,⟨tt,trivial⟩⟩⟩⟩⟩⟩⟩⟩) ?_
   refine Tri.ret ?_
   repeat (first | refine thenP_ret ?_ | refine blkP_ret ?_ | refine countP_ret ?_ | refine joinP_ret ?_)
   refine endP.conv (r':=⟨.sc (.i .u64 (iXor .u64 (iXor .u64 (FD60w64 p0 (p1.getD 0 0)) (FD60w64 p0 (p1.getD 1 0))) (FD60w64 p0 (p1.getD 2 0)))),[]⟩) (by simp only [FD54w64,h2,sel_true,sel_false]) ?_
   exact endP.ret [] TT (by kernel_rfl) (by kernel_rfl) (by kernel_rfl) tt
noncomputable def FD36w64l0 (k0:Nat) (z0:Nat × List Int):Nat × List Int :=
 (z0.1 + 1,z0.2 ++ [0])
noncomputable def FD36w64l1 (p0:List Int) (k1:Nat) (z1:List Int):List Int :=
 z1.set (((iSub .i64 (((((itr (FD36w64l0) ((239 - p0.length % 128) % 128) (p0.length + 1,p0 ++ [128])).1) + 16:Nat):Int) - 1 - ((0:Nat):Int)) (k1:Int))).toNat) (IntKind.wrap .u8 (iShr .u64 (iMul .u64 (IntKind.wrap .u64 (p0.length:Int)) 8) ((8 * k1:Nat):Int)))
noncomputable def FD36w64l2 (k2:Nat) (z2:List Int):List Int :=
 z2.set k2 (iShr .u64 (z2.getD k2 0) 0)
noncomputable def FD36w64l4 (p0:List Int) (k3:Nat) (k4:Nat) (z4:List Int):List Int :=
 z4.set ((8 * k4) / 64) (iAdd .u64 (iMul .u64 (z4.getD ((8 * k4) / 64) 0) 256) (IntKind.wrap .u64 ((itr (FD36w64l1 p0) 8 (((itr (FD36w64l0) ((239 - p0.length % 128) % 128) (p0.length + 1,p0 ++ [128])).2) ++ (List.replicate 16 0))).getD ((128 * k3) + k4) 0)))
noncomputable def FD36w64l5 (k5:Nat) (z5:List Int):List Int :=
 z5.set (k5 + 16) (iAnd .u64 (iAdd .u64 (iAdd .u64 (iAdd .u64 (z5.getD ((k5 + 16) - 16) 0) (z5.getD ((k5 + 16) - 7) 0)) (FD54w64 (z5.getD ((k5 + 16) - 15) 0) [1,8,7] true)) (FD54w64 (z5.getD ((k5 + 16) - 2) 0) [19,61,6] true)) 18446744073709551615)
noncomputable def FD36w64l6 (p0:List Int) (k3:Nat) (k6:Nat) (z6:List Int):List Int :=
 [(iAnd .u64 (iAdd .u64 (iAnd .u64 (iAdd .u64 (iAdd .u64 (iAdd .u64 (iAdd .u64 (z6.getD 7 0) (FD54w64 (z6.getD 4 0) [14,18,41] false)) (iOr .u64 (iAnd .u64 (z6.getD 4 0) (z6.getD 5 0)) (iAnd .u64 (iXor .u64 18446744073709551615 (z6.getD 4 0)) (z6.getD 6 0)))) (iShr .u64 ((FD53).getD k6 0) 0)) ((itr (FD36w64l5) 64 (itr (FD36w64l4 p0 k3) 128 [0,0,0,0,0,0,0,0,0,0,0,0,0,0,0,0,0,0,0,0,0,0,0,0,0,0,0,0,0,0,0,0,0,0,0,0,0,0,0,0,0,0,0,0,0,0,0,0,0,0,0,0,0,0,0,0,0,0,0,0,0,0,0,0,0,0,0,0,0,0,0,0,0,0,0,0,0,0,0,0])).getD k6 0)) 18446744073709551615) (iAdd .u64 (FD54w64 (z6.getD 0 0) [28,34,39] false) (iOr .u64 (iOr .u64 (iAnd .u64 (z6.getD 0 0) (z6.getD 1 0)) (iAnd .u64 (z6.getD 1 0) (z6.getD 2 0))) (iAnd .u64 (z6.getD 0 0) (z6.getD 2 0))))) 18446744073709551615),z6.getD 0 0,z6.getD 1 0,z6.getD 2 0,(iAnd .u64 (iAdd .u64 (z6.getD 3 0) (iAnd .u64 (iAdd .u64 (iAdd .u64 (iAdd .u64 (iAdd .u64 (z6.getD 7 0) (FD54w64 (z6.getD 4 0) [14,18,41] false)) (iOr .u64 (iAnd .u64 (z6.getD 4 0) (z6.getD 5 0)) (iAnd .u64 (iXor .u64 18446744073709551615 (z6.getD 4 0)) (z6.getD 6 0)))) (iShr .u64 ((FD53).getD k6 0) 0)) ((itr (FD36w64l5) 64 (itr (FD36w64l4 p0 k3) 128 [0,0,0,0,0,0,0,0,0,0,0,0,0,0,0,0,0,0,0,0,0,0,0,0,0,0,0,0,0,0,0,0,0,0,0,0,0,0,0,0,0,0,0,0,0,0,0,0,0,0,0,0,0,0,0,0,0,0,0,0,0,0,0,0,0,0,0,0,0,0,0,0,0,0,0,0,0,0,0,0])).getD k6 0)) 18446744073709551615)) 18446744073709551615),z6.getD 4 0,z6.getD 5 0,z6.getD 6 0]
noncomputable def FD36w64l7 (p0:List Int) (k3:Nat) (z3:List Int) (k7:Nat) (z7:List Int):List Int :=
 z7.set k7 (iAnd .u64 (iAdd .u64 (z7.getD k7 0) ((itr (FD36w64l6 p0 k3) 80 z3).getD k7 0)) 18446744073709551615)
noncomputable def FD36w64l3 (p0:List Int) (k3:Nat) (z3:List Int):List Int :=
 (itr (FD36w64l7 p0 k3 z3) 8 z3)
noncomputable def FD36w64l8 (p0:List Int) (k8:Nat) (z8:Nat × List Int):Nat × List Int :=
 (z8.1 + 1,z8.2 ++ ([(IntKind.wrap .u8 (iShr .u64 ((itr (FD36w64l3 p0) ((((itr (FD36w64l0) ((239 - p0.length % 128) % 128) (p0.length + 1,p0 ++ [128])).1) + 16) / 128) (itr (FD36w64l2) 8 [7640891576956012808,13503953896175478587,4354685564936845355,11912009170470909681,5840696475078001361,11170449401992604703,2270897969802886507,6620516959819538809])).getD ((8 * k8) / 64) 0) ((56 - ((8 * k8) % 64):Nat):Int)))]))
noncomputable def FD36w64 (p0:List Int):List Int :=
 (itr (FD36w64l8 p0) 64 (0,[])).2
theorem nD36w64 (p0:List Int):(itr (FD36w64l8 p0) 64 (0,[])).1=64:=by
 have h0:∀ (k:Nat) (z:Nat × List Int),(itr (FD36w64l8 p0) k z).1=z.1 + k:=by
  intro k z
  induction k with
  | zero => rw [itr_zero]; rfl
  | succ k ih => rw [itr_succ]; show (itr (FD36w64l8 p0) k z).1 + 1=_; rw [ih]; omega
 rw [h0]
noncomputable def SD36w64:List AV→Option (Prop × Ret)
 | [.sc (.ro .u8 p0),.sc (.i .i64 64)] => some (p0.length≤100000000,⟨.sc (.sl 0 0 64 1 none),[.ints .u8 64 (FD36w64 p0)]⟩)
 | _ => none
noncomputable def BD36w64:Bs:={ P:=Go.Proofs.Tryd.prog,G:=gD,tab:=tabOf [(58,⟨[],0,SD52⟩),(59,⟨[],0,SD53⟩),(60,⟨[.val,.val,.val,.val],0,SD54w64⟩)],n:=292 }
theorem BD36w64.ok:BD36w64.Ok:=⟨tabOk (P:=Go.Proofs.Tryd.prog) (G:=gD) (l:=[(58,⟨[],0,SD52⟩),(59,⟨[],0,SD53⟩),(60,⟨[.val,.val,.val,.val],0,SD54w64⟩)]) (And.intro KD52 (And.intro KD53 (And.intro KD54w64 True.intro))),mixed⟩
theorem KD36w64:Known Go.Proofs.Tryd.prog gD 29 ⟨[.ro .u8,.val],1,SD36w64⟩:=by
 refine Known.walk (B:=BD36w64) (fn:=Go.Proofs.Tryd.f29) BD36w64.ok (by kernel_rfl) rfl (by kernel_rfl) (by kernel_rfl) (by decide) ?_ ?_
 ·intro vs C r h
  simp only at h
  unfold SD36w64 at h
  split at h
  ·cases h; rfl
  ·cases h
 ·intro E args C r h hC hlen
  simp only at h
  unfold SD36w64 at h
  split at h
  rotate_left
  ·cases h
  rename_i p0
  cases h
  simp only [lens] at hlen
  refine ⟨show 2≤292 from by decide,?_⟩
  refine Tri.sub (Sub.of_eq (show _=([(0,qr p0),(1,qi 64)],[]) from rfl)) ?_
  refine sr [] none [0,1] [] (TT∧True)
    ([(0,qr p0),(1,qi 64)],[])
    16 (⟨tt,trivial⟩) ?_
  refine sr [] none [6,5,0,1] [] (TT∧(TT∧True))
    ([(6,.sc (.i .u64 18446744073709551615)),(5,qi 80),(0,qr p0),(1,qi 64)],[])
    48 (⟨tt,⟨tt,trivial⟩⟩) ?_
  refine sr [] none [7,6,5,0,1] [128] (((((0 < 3)∧(1=1))∧(((1 < 3)∧(1=1))∧(((2 < 3)∧(1=1))∧True)))∧True)∧(((((0 < 3)∧(1=1))∧(((1 < 3)∧(1=1))∧(((2 < 3)∧(1=1))∧True)))∧True)∧(((((0 < 3)∧(1=1))∧(((1 < 3)∧(1=1))∧(((2 < 3)∧(1=1))∧True)))∧True)∧(((((0 < 3)∧(1=1))∧(((1 < 3)∧(1=1))∧(((2 < 3)∧(1=1))∧True)))∧True)∧(((((0 + 3≤12)∧(3=3))∧(((3 + 3≤12)∧(3=3))∧(((6 + 3≤12)∧(3=3))∧(((9 + 3≤12)∧(3=3))∧True))))∧True)∧(TT∧(((True∧(12=12))∧True)∧True)))))))
    ([(7,qp 128 0),(6,.sc (.i .u64 18446744073709551615)),(5,qi 80),(0,qr p0),(1,qi 64)],[(128,.ints .i64 12 [1,8,7,19,61,6,14,18,41,28,34,39])])
    160 (⟨⟨⟨⟨(by omega),(rfl)⟩,⟨⟨(by omega),(rfl)⟩,⟨⟨(by omega),(rfl)⟩,trivial⟩⟩⟩,trivial⟩,⟨⟨⟨⟨(by omega),(rfl)⟩,⟨⟨(by omega),(rfl)⟩,⟨⟨(by omega),(rfl)⟩,trivial⟩⟩⟩,trivial⟩,⟨⟨⟨⟨(by omega),(rfl)⟩,⟨⟨(by omega),(rfl)⟩,⟨⟨(by omega),(rfl)⟩,trivial⟩⟩⟩,trivial⟩,⟨⟨⟨⟨(by omega),(rfl)⟩,⟨⟨(by omega),(rfl)⟩,⟨⟨(by omega),(rfl)⟩,trivial⟩⟩⟩,trivial⟩,⟨⟨⟨⟨(by omega),(rfl)⟩,⟨⟨(by omega),(rfl)⟩,⟨⟨(by omega),(rfl)⟩,⟨⟨(by omega),(rfl)⟩,trivial⟩⟩⟩⟩,trivial⟩,⟨tt,⟨⟨⟨trivial,(rfl)⟩,trivial⟩,trivial⟩⟩⟩⟩⟩⟩⟩) ?_
  refine Tri.seq ?_
  refine sr [] none [33,7,6,5,0,1] [128] (TT∧(TT∧True))
    ([(33,.sc (.b false)),(7,qp 128 0),(6,.sc (.i .u64 18446744073709551615)),(5,qi 80),(0,qr p0),(1,qi 64)],[(128,.ints .i64 12 [1,8,7,19,61,6,14,18,41,28,34,39])])
    192 (⟨tt,⟨tt,trivial⟩⟩) ?_
  refine Tri.cond_false (by kernel_rfl) ?_
  refine Tri.skip ?_
  change Tri _ _ _ _ _ _
  refine sr [] none [8,7,6,5,0,1] [128] (TT∧(TT∧(TT∧True)))
    ([(8,qi 128),(7,qp 128 0),(6,.sc (.i .u64 18446744073709551615)),(5,qi 80),(0,qr p0),(1,qi 64)],[(128,.ints .i64 12 [1,8,7,19,61,6,14,18,41,28,34,39])])
    240 (⟨tt,⟨tt,⟨tt,trivial⟩⟩⟩) ?_
  refine sr [] none [9,8,7,6,5,0,1] [288,128] (TT∧(((((True∧(1=1))∧((0 < 1)∧((p0.length * 1≤140737488355328)∧(p0.length≤140737488355328))))∧(p0.length=p0.length * 1))∧True)∧((((((0 < 1)∧(1=1))∧True)∧((1 * 1≤16777216)∧(1=1)))∧True)∧((((((True∧(1=1))∧((0 < 1)∧(((p0.length + 1) * 1≤140737488355328)∧(p0.length + 1≤140737488355328))))∧(1=1 * 1))∧((1=1)∧(0 + p0.length * 1=p0.length)))∧True)∧(TT∧True)))))
    ([(9,.sc (.sl 288 0 (p0.length + 1) 1 none)),(8,qi 128),(7,qp 128 0),(6,.sc (.i .u64 18446744073709551615)),(5,qi 80),(0,qr p0),(1,qi 64)],[(288,.ints .u8 (p0.length + 1) (p0 ++ [128])),(128,.ints .i64 12 [1,8,7,19,61,6,14,18,41,28,34,39])])
    320 (⟨tt,⟨⟨⟨⟨⟨trivial,(rfl)⟩,⟨(by first | omega | (rw [adr_eq]; omega) | exact iAnd_nn _ _ | exact iSub_nn _ _ | exact part1_le (by omega) (by first | omega | (simp only [List.length_append]; omega)) | (rw [iMul_i64 (by omega) (by omega)]; omega) | decide),⟨(by omega),(by omega)⟩⟩⟩,(by omega)⟩,trivial⟩,⟨⟨⟨⟨⟨(by omega),(rfl)⟩,trivial⟩,⟨(by omega),(rfl)⟩⟩,trivial⟩,⟨⟨⟨⟨⟨⟨trivial,(rfl)⟩,⟨(by omega),⟨(by omega),(by omega)⟩⟩⟩,(by omega)⟩,⟨(rfl),(by omega)⟩⟩,trivial⟩,⟨tt,trivial⟩⟩⟩⟩⟩) ?_
  refine Tri.seq ?_
  refine Tri.block ?_
  refine Tri.count 320 ((239 - p0.length % 128) % 128) (FD36w64l0) (p0.length + 1,p0 ++ [128]) (fun k0 z0 => z0.1=(p0.length + 1) + 1 * k0) (fun k0 z0 => ([(9,.sc (.sl 288 0 z0.1 1 none)),(8,qi 128),(7,qp 128 0),(6,.sc (.i .u64 18446744073709551615)),(5,qi 80),(0,qr p0),(1,qi 64)],[(288,.ints .u8 z0.1 z0.2),(128,.ints .i64 12 [1,8,7,19,61,6,14,18,41,28,34,39])])) (by simp) (Sub.of_eq (by kernel_rfl)) ?_
  intro k0 z0 hk0 hz0 hJ0
  refine Tri.seq ?_
  refine Tri.len 288 rfl (fun hl1 => ?_)
  refine sr [(49,.i .i64 ((z0.1 + 16:Nat):Int)),(51,.i .i64 (((z0.1 + 16) % 128:Nat):Int))] none [52,9,8,7,6,5,0,1] [288,128] (TT∧(TT∧(TT∧(((4 ≠ (0:Int))∧True)∧((True∧((iAdd .i64 ((z0.1:Nat):Int) 16)=((z0.1 + 16:Nat):Int)))∧(TT∧(((128 ≠ (0:Int))∧((iRem ((z0.1 + 16:Nat):Int) 128)=(((z0.1 + 16) % 128:Nat):Int)))∧(TT∧True))))))))
    ([(52,.sc (.b (((((z0.1 + 16) % 128:Nat):Int):Int) != 0))),(9,.sc (.sl 288 0 z0.1 1 none)),(8,qi 128),(7,qp 128 0),(6,.sc (.i .u64 18446744073709551615)),(5,qi 80),(0,qr p0),(1,qi 64)],[(288,.ints .u8 z0.1 z0.2),(128,.ints .i64 12 [1,8,7,19,61,6,14,18,41,28,34,39])])
    448 (⟨tt,⟨tt,⟨tt,⟨⟨(by first | omega | (rw [adr_eq]; omega) | exact iAnd_nn _ _ | exact iSub_nn _ _ | exact part1_le (by omega) (by first | omega | (simp only [List.length_append]; omega)) | (rw [iMul_i64 (by omega) (by omega)]; omega) | decide),trivial⟩,⟨⟨trivial,(iAdd_nat (a:=z0.1) (b:=16) (by omega))⟩,⟨tt,⟨⟨(by omega),(iRem_nat (a:=z0.1 + 16) (b:=128))⟩,⟨tt,trivial⟩⟩⟩⟩⟩⟩⟩⟩) ?_
  refine Tri.cond (x:=(((((z0.1 + 16) % 128:Nat):Int):Int) != 0)) (by kernel_rfl) (fun h2 => ?_) (fun h2 => ?_)
  ·
   have h2':=ne_true_i h2
   refine Tri.skip ?_
   change Tri _ _ _ _ _ _
   refine Tri.block ?_
   refine rr [] none [9,8,7,6,5,0,1] [480,128] (TT∧((((((0 < 1)∧(1=1))∧True)∧((1 * 1≤16777216)∧(1=1)))∧True)∧((((((True∧(1=1))∧((0 < 1)∧(((z0.1 + 1) * 1≤140737488355328)∧(z0.1 + 1≤140737488355328))))∧(1=1 * 1))∧((1=1)∧(0 + z0.1 * 1=z0.1)))∧True)∧(TT∧True))))
     ([(9,.sc (.sl 480 0 (z0.1 + 1) 1 none)),(8,qi 128),(7,qp 128 0),(6,.sc (.i .u64 18446744073709551615)),(5,qi 80),(0,qr p0),(1,qi 64)],[(480,.ints .u8 (z0.1 + 1) (z0.2 ++ [0])),(128,.ints .i64 12 [1,8,7,19,61,6,14,18,41,28,34,39])])
     512 (⟨tt,⟨⟨⟨⟨⟨(by omega),(rfl)⟩,trivial⟩,⟨(by omega),(rfl)⟩⟩,trivial⟩,⟨⟨⟨⟨⟨⟨trivial,(rfl)⟩,⟨(by omega),⟨(by omega),(by omega)⟩⟩⟩,(by omega)⟩,⟨(rfl),(by omega)⟩⟩,trivial⟩,⟨tt,trivial⟩⟩⟩⟩) ?_
   repeat (refine blkP_normal ?_)
   refine countP_normal (by have h9:=ne_true_i h2; omega) (show z0.1 + 1=(p0.length + 1) + 1 * (k0 + 1) by omega) ?_
   exact Sub.ren (ns:=[(480,288),(128,128)]) (kf:=[9,8,7,6,5,0,1]) (by kernel_rfl) (by kernel_rfl)
  ·
   have h2':=ne_false_i h2
   refine Tri.exit ?_
   have hend0:k0=((239 - p0.length % 128) % 128):=by (have h9:=ne_false_i h2; omega)
   subst hend0; subst hz0
   change Tri _ _ _ _ _ _
   refine sr [] none [9,8,7,6,5,0,1] [496,128] (TT∧(TT∧(((4 ≠ (0:Int))∧True)∧((((((((((0:Int)≤16)∧(16≤(140737488355328:Int)))∧(((1:Nat):Int) * 16≤281474976710656))∧(1=1))∧((0 < 1)∧(((((itr (FD36w64l0) ((239 - p0.length % 128) % 128) (p0.length + 1,p0 ++ [128])).1) + 16) * 1≤140737488355328)∧(((itr (FD36w64l0) ((239 - p0.length % 128) % 128) (p0.length + 1,p0 ++ [128])).1) + 16≤140737488355328))))∧(16=16 * 1))∧((1=1)∧(0 + ((itr (FD36w64l0) ((239 - p0.length % 128) % 128) (p0.length + 1,p0 ++ [128])).1) * 1=(itr (FD36w64l0) ((239 - p0.length % 128) % 128) (p0.length + 1,p0 ++ [128])).1)))∧True)∧(TT∧True)))))
     ([(9,.sc (.sl 496 0 (((itr (FD36w64l0) ((239 - p0.length % 128) % 128) (p0.length + 1,p0 ++ [128])).1) + 16) 1 none)),(8,qi 128),(7,qp 128 0),(6,.sc (.i .u64 18446744073709551615)),(5,qi 80),(0,qr p0),(1,qi 64)],[(496,.ints .u8 (((itr (FD36w64l0) ((239 - p0.length % 128) % 128) (p0.length + 1,p0 ++ [128])).1) + 16) (((itr (FD36w64l0) ((239 - p0.length % 128) % 128) (p0.length + 1,p0 ++ [128])).2) ++ (List.replicate 16 0))),(128,.ints .i64 12 [1,8,7,19,61,6,14,18,41,28,34,39])])
     528 (⟨tt,⟨tt,⟨⟨(by omega),trivial⟩,⟨⟨⟨⟨⟨⟨⟨⟨(by omega),(by omega)⟩,(by omega)⟩,(rfl)⟩,⟨(by omega),⟨(by omega),(by omega)⟩⟩⟩,(by omega)⟩,⟨(rfl),(by omega)⟩⟩,trivial⟩,⟨tt,trivial⟩⟩⟩⟩⟩) ?_
   refine sr [] none [10,9,8,7,6,5,1] [496,128] (TT∧(TT∧(TT∧(TT∧(TT∧True)))))
     ([(10,.sc (.i .u64 (iMul .u64 (IntKind.wrap .u64 (p0.length:Int)) 8))),(9,.sc (.sl 496 0 (((itr (FD36w64l0) ((239 - p0.length % 128) % 128) (p0.length + 1,p0 ++ [128])).1) + 16) 1 none)),(8,qi 128),(7,qp 128 0),(6,.sc (.i .u64 18446744073709551615)),(5,qi 80),(1,qi 64)],[(496,.ints .u8 (((itr (FD36w64l0) ((239 - p0.length % 128) % 128) (p0.length + 1,p0 ++ [128])).1) + 16) (((itr (FD36w64l0) ((239 - p0.length % 128) % 128) (p0.length + 1,p0 ++ [128])).2) ++ (List.replicate 16 0))),(128,.ints .i64 12 [1,8,7,19,61,6,14,18,41,28,34,39])])
     608 (⟨tt,⟨tt,⟨tt,⟨tt,⟨tt,trivial⟩⟩⟩⟩⟩) ?_
   refine Tri.seq ?_
   refine sr [] none [11,10,9,8,7,6,5,1] [496,128] (TT∧True)
     ([(11,qi 0),(10,.sc (.i .u64 (iMul .u64 (IntKind.wrap .u64 (p0.length:Int)) 8))),(9,.sc (.sl 496 0 (((itr (FD36w64l0) ((239 - p0.length % 128) % 128) (p0.length + 1,p0 ++ [128])).1) + 16) 1 none)),(8,qi 128),(7,qp 128 0),(6,.sc (.i .u64 18446744073709551615)),(5,qi 80),(1,qi 64)],[(496,.ints .u8 (((itr (FD36w64l0) ((239 - p0.length % 128) % 128) (p0.length + 1,p0 ++ [128])).1) + 16) (((itr (FD36w64l0) ((239 - p0.length % 128) % 128) (p0.length + 1,p0 ++ [128])).2) ++ (List.replicate 16 0))),(128,.ints .i64 12 [1,8,7,19,61,6,14,18,41,28,34,39])])
     624 (⟨tt,trivial⟩) ?_
   refine Tri.block ?_
   refine Tri.count 624 8 (FD36w64l1 p0) (((itr (FD36w64l0) ((239 - p0.length % 128) % 128) (p0.length + 1,p0 ++ [128])).2) ++ (List.replicate 16 0)) (fun k1 z1 => True) (fun k1 z1 => ([(11,qi (k1:Int)),(10,.sc (.i .u64 (iMul .u64 (IntKind.wrap .u64 (p0.length:Int)) 8))),(9,.sc (.sl 496 0 (((itr (FD36w64l0) ((239 - p0.length % 128) % 128) (p0.length + 1,p0 ++ [128])).1) + 16) 1 none)),(8,qi 128),(7,qp 128 0),(6,.sc (.i .u64 18446744073709551615)),(5,qi 80),(1,qi 64)],[(496,.ints .u8 (((itr (FD36w64l0) ((239 - p0.length % 128) % 128) (p0.length + 1,p0 ++ [128])).1) + 16) z1),(128,.ints .i64 12 [1,8,7,19,61,6,14,18,41,28,34,39])])) trivial (Sub.of_eq (by kernel_rfl)) ?_
   intro k1 z1 hk1 hz1 hJ1
   refine Tri.seq ?_
   refine sr [] none [65,11,10,9,8,7,6,5,1] [496,128] (TT∧(TT∧True))
     ([(65,.sc (.b (decide (((k1:Int):Int) < 8)))),(11,qi (k1:Int)),(10,.sc (.i .u64 (iMul .u64 (IntKind.wrap .u64 (p0.length:Int)) 8))),(9,.sc (.sl 496 0 (((itr (FD36w64l0) ((239 - p0.length % 128) % 128) (p0.length + 1,p0 ++ [128])).1) + 16) 1 none)),(8,qi 128),(7,qp 128 0),(6,.sc (.i .u64 18446744073709551615)),(5,qi 80),(1,qi 64)],[(496,.ints .u8 (((itr (FD36w64l0) ((239 - p0.length % 128) % 128) (p0.length + 1,p0 ++ [128])).1) + 16) z1),(128,.ints .i64 12 [1,8,7,19,61,6,14,18,41,28,34,39])])
     656 (⟨tt,⟨tt,trivial⟩⟩) ?_
   refine Tri.cond (x:=(decide (((k1:Int):Int) < 8))) (by kernel_rfl) (fun h3 => ?_) (fun h3 => ?_)
   ·
    have h3':=of_decide_eq_true h3
    refine Tri.skip ?_
    change Tri _ _ _ _ _ _
    refine Tri.seq ?_
    refine Tri.block ?_
    refine rr [(71,.i .i64 (((((itr (FD36w64l0) ((239 - p0.length % 128) % 128) (p0.length + 1,p0 ++ [128])).1) + 16:Nat):Int) - 1 - ((0:Nat):Int))),(76,.i .i64 ((8 * k1:Nat):Int))] none [11,10,9,8,7,6,5,1] [496,128] (TT∧(TT∧(TT∧((True∧((iSub .i64 ((((itr (FD36w64l0) ((239 - p0.length % 128) % 128) (p0.length + 1,p0 ++ [128])).1) + 16:Nat):Int) 1)=(((((itr (FD36w64l0) ((239 - p0.length % 128) % 128) (p0.length + 1,p0 ++ [128])).1) + 16:Nat):Int) - 1 - ((0:Nat):Int))))∧(TT∧(TT∧(TT∧(TT∧((True∧((iMul .i64 8 (k1:Int))=((8 * k1:Nat):Int)))∧((((0:Int)≤((8 * k1:Nat):Int))∧True)∧(TT∧((((0:Int)≤(iSub .i64 (((((itr (FD36w64l0) ((239 - p0.length % 128) % 128) (p0.length + 1,p0 ++ [128])).1) + 16:Nat):Int) - 1 - ((0:Nat):Int)) (k1:Int))∧(iSub .i64 (((((itr (FD36w64l0) ((239 - p0.length % 128) % 128) (p0.length + 1,p0 ++ [128])).1) + 16:Nat):Int) - 1 - ((0:Nat):Int)) (k1:Int)) < ((((itr (FD36w64l0) ((239 - p0.length % 128) % 128) (p0.length + 1,p0 ++ [128])).1) + 16:Nat):Int))∧True)∧((((((iSub .i64 (((((itr (FD36w64l0) ((239 - p0.length % 128) % 128) (p0.length + 1,p0 ++ [128])).1) + 16:Nat):Int) - 1 - ((0:Nat):Int)) (k1:Int))).toNat < ((itr (FD36w64l0) ((239 - p0.length % 128) % 128) (p0.length + 1,p0 ++ [128])).1) + 16)∧(1=1))∧True)∧True)))))))))))))
      ([(11,qi (k1:Int)),(10,.sc (.i .u64 (iMul .u64 (IntKind.wrap .u64 (p0.length:Int)) 8))),(9,.sc (.sl 496 0 (((itr (FD36w64l0) ((239 - p0.length % 128) % 128) (p0.length + 1,p0 ++ [128])).1) + 16) 1 none)),(8,qi 128),(7,qp 128 0),(6,.sc (.i .u64 18446744073709551615)),(5,qi 80),(1,qi 64)],[(496,.ints .u8 (((itr (FD36w64l0) ((239 - p0.length % 128) % 128) (p0.length + 1,p0 ++ [128])).1) + 16) (z1.set (((iSub .i64 (((((itr (FD36w64l0) ((239 - p0.length % 128) % 128) (p0.length + 1,p0 ++ [128])).1) + 16:Nat):Int) - 1 - ((0:Nat):Int)) (k1:Int))).toNat) (IntKind.wrap .u8 (iShr .u64 (iMul .u64 (IntKind.wrap .u64 (p0.length:Int)) 8) ((8 * k1:Nat):Int))))),(128,.ints .i64 12 [1,8,7,19,61,6,14,18,41,28,34,39])])
      864 (⟨tt,⟨tt,⟨tt,⟨⟨trivial,(iSub_dn0 (by omega))⟩,⟨tt,⟨tt,⟨tt,⟨tt,⟨⟨trivial,(iMul_nat (a:=8) (b:=k1) (by omega))⟩,⟨⟨(by omega),trivial⟩,⟨tt,⟨⟨(by first | omega | (unfold iSub; rw [wrap_small (by omega) (by omega)]; omega) | exact iAnd_nn _ _ | exact iSub_nn _ _),trivial⟩,⟨⟨⟨(by first | omega | (unfold iSub; rw [wrap_small (by omega) (by omega)]; omega) | exact iAnd_nn _ _ | exact iSub_nn _ _),(rfl)⟩,trivial⟩,trivial⟩⟩⟩⟩⟩⟩⟩⟩⟩⟩⟩⟩⟩) ?_
    change Tri _ _ _ _ _ _
    refine rr [(67,.i .i64 ((k1 + 1:Nat):Int))] none [11,10,9,8,7,6,5,1] [496,128] (TT∧((True∧((iAdd .i64 (k1:Int) 1)=((k1 + 1:Nat):Int)))∧(TT∧True)))
      ([(11,qi ((k1 + 1:Nat):Int)),(10,.sc (.i .u64 (iMul .u64 (IntKind.wrap .u64 (p0.length:Int)) 8))),(9,.sc (.sl 496 0 (((itr (FD36w64l0) ((239 - p0.length % 128) % 128) (p0.length + 1,p0 ++ [128])).1) + 16) 1 none)),(8,qi 128),(7,qp 128 0),(6,.sc (.i .u64 18446744073709551615)),(5,qi 80),(1,qi 64)],[(496,.ints .u8 (((itr (FD36w64l0) ((239 - p0.length % 128) % 128) (p0.length + 1,p0 ++ [128])).1) + 16) (z1.set (((iSub .i64 (((((itr (FD36w64l0) ((239 - p0.length % 128) % 128) (p0.length + 1,p0 ++ [128])).1) + 16:Nat):Int) - 1 - ((0:Nat):Int)) (k1:Int))).toNat) (IntKind.wrap .u8 (iShr .u64 (iMul .u64 (IntKind.wrap .u64 (p0.length:Int)) 8) ((8 * k1:Nat):Int))))),(128,.ints .i64 12 [1,8,7,19,61,6,14,18,41,28,34,39])])
      912 (⟨tt,⟨⟨trivial,(iAdd_nat (a:=k1) (b:=1) (by omega))⟩,⟨tt,trivial⟩⟩⟩) ?_
    repeat (refine blkP_normal ?_)
    refine countP_normal (by omega) trivial ?_
    exact Sub.ren (ns:=[(496,496),(128,128)]) (kf:=[11,10,9,8,7,6,5,1]) (by kernel_rfl) (by kernel_rfl)
   ·
    have h3':=of_decide_eq_false h3
    refine Tri.exit ?_
    have hend1:k1=8:=by (have:=of_decide_eq_false h3; omega)
    subst hend1; subst hz1
    change Tri _ _ _ _ _ _
    refine sr [] none [12,9,8,7,6,5,1] [672,496,128] ((TT∧True)∧(TT∧(((True∧(8=8))∧True)∧True)))
      ([(12,qp 672 0),(9,.sc (.sl 496 0 (((itr (FD36w64l0) ((239 - p0.length % 128) % 128) (p0.length + 1,p0 ++ [128])).1) + 16) 1 none)),(8,qi 128),(7,qp 128 0),(6,.sc (.i .u64 18446744073709551615)),(5,qi 80),(1,qi 64)],[(672,.ints .u64 8 [7640891576956012808,13503953896175478587,4354685564936845355,11912009170470909681,5840696475078001361,11170449401992604703,2270897969802886507,6620516959819538809]),(496,.ints .u8 (((itr (FD36w64l0) ((239 - p0.length % 128) % 128) (p0.length + 1,p0 ++ [128])).1) + 16) (itr (FD36w64l1 p0) 8 (((itr (FD36w64l0) ((239 - p0.length % 128) % 128) (p0.length + 1,p0 ++ [128])).2) ++ (List.replicate 16 0)))),(128,.ints .i64 12 [1,8,7,19,61,6,14,18,41,28,34,39])])
      704 (⟨⟨tt,trivial⟩,⟨tt,⟨⟨⟨trivial,(rfl)⟩,trivial⟩,trivial⟩⟩⟩) ?_
    refine sr [] none [13,12,9,8,7,6,5,1] [720,672,496,128] ((TT∧True)∧(TT∧(((True∧(80=80))∧True)∧True)))
      ([(13,qp 720 0),(12,qp 672 0),(9,.sc (.sl 496 0 (((itr (FD36w64l0) ((239 - p0.length % 128) % 128) (p0.length + 1,p0 ++ [128])).1) + 16) 1 none)),(8,qi 128),(7,qp 128 0),(6,.sc (.i .u64 18446744073709551615)),(5,qi 80),(1,qi 64)],[(720,.ints .u64 80 (FD53)),(672,.ints .u64 8 [7640891576956012808,13503953896175478587,4354685564936845355,11912009170470909681,5840696475078001361,11170449401992604703,2270897969802886507,6620516959819538809]),(496,.ints .u8 (((itr (FD36w64l0) ((239 - p0.length % 128) % 128) (p0.length + 1,p0 ++ [128])).1) + 16) (itr (FD36w64l1 p0) 8 (((itr (FD36w64l0) ((239 - p0.length % 128) % 128) (p0.length + 1,p0 ++ [128])).2) ++ (List.replicate 16 0)))),(128,.ints .i64 12 [1,8,7,19,61,6,14,18,41,28,34,39])])
      752 (⟨⟨tt,trivial⟩,⟨tt,⟨⟨⟨trivial,(rfl)⟩,trivial⟩,trivial⟩⟩⟩) ?_
    refine Tri.seq ?_
    refine sr [] none [14,13,12,9,8,7,6,5,1] [720,672,496,128] (TT∧True)
      ([(14,qi 0),(13,qp 720 0),(12,qp 672 0),(9,.sc (.sl 496 0 (((itr (FD36w64l0) ((239 - p0.length % 128) % 128) (p0.length + 1,p0 ++ [128])).1) + 16) 1 none)),(8,qi 128),(7,qp 128 0),(6,.sc (.i .u64 18446744073709551615)),(5,qi 80),(1,qi 64)],[(720,.ints .u64 80 (FD53)),(672,.ints .u64 8 [7640891576956012808,13503953896175478587,4354685564936845355,11912009170470909681,5840696475078001361,11170449401992604703,2270897969802886507,6620516959819538809]),(496,.ints .u8 (((itr (FD36w64l0) ((239 - p0.length % 128) % 128) (p0.length + 1,p0 ++ [128])).1) + 16) (itr (FD36w64l1 p0) 8 (((itr (FD36w64l0) ((239 - p0.length % 128) % 128) (p0.length + 1,p0 ++ [128])).2) ++ (List.replicate 16 0)))),(128,.ints .i64 12 [1,8,7,19,61,6,14,18,41,28,34,39])])
      768 (⟨tt,trivial⟩) ?_
    refine Tri.block ?_
    refine Tri.count 768 8 (FD36w64l2) [7640891576956012808,13503953896175478587,4354685564936845355,11912009170470909681,5840696475078001361,11170449401992604703,2270897969802886507,6620516959819538809] (fun k2 z2 => True) (fun k2 z2 => ([(14,qi (k2:Int)),(13,qp 720 0),(12,qp 672 0),(9,.sc (.sl 496 0 (((itr (FD36w64l0) ((239 - p0.length % 128) % 128) (p0.length + 1,p0 ++ [128])).1) + 16) 1 none)),(8,qi 128),(7,qp 128 0),(6,.sc (.i .u64 18446744073709551615)),(5,qi 80),(1,qi 64)],[(720,.ints .u64 80 (FD53)),(672,.ints .u64 8 z2),(496,.ints .u8 (((itr (FD36w64l0) ((239 - p0.length % 128) % 128) (p0.length + 1,p0 ++ [128])).1) + 16) (itr (FD36w64l1 p0) 8 (((itr (FD36w64l0) ((239 - p0.length % 128) % 128) (p0.length + 1,p0 ++ [128])).2) ++ (List.replicate 16 0)))),(128,.ints .i64 12 [1,8,7,19,61,6,14,18,41,28,34,39])])) trivial (Sub.of_eq (by kernel_rfl)) ?_
    intro k2 z2 hk2 hz2 hJ2
    refine Tri.seq ?_
    refine sr [] none [83,14,13,12,9,8,7,6,5,1] [720,672,496,128] (TT∧(TT∧True))
      ([(83,.sc (.b (decide (((k2:Int):Int) < 8)))),(14,qi (k2:Int)),(13,qp 720 0),(12,qp 672 0),(9,.sc (.sl 496 0 (((itr (FD36w64l0) ((239 - p0.length % 128) % 128) (p0.length + 1,p0 ++ [128])).1) + 16) 1 none)),(8,qi 128),(7,qp 128 0),(6,.sc (.i .u64 18446744073709551615)),(5,qi 80),(1,qi 64)],[(720,.ints .u64 80 (FD53)),(672,.ints .u64 8 z2),(496,.ints .u8 (((itr (FD36w64l0) ((239 - p0.length % 128) % 128) (p0.length + 1,p0 ++ [128])).1) + 16) (itr (FD36w64l1 p0) 8 (((itr (FD36w64l0) ((239 - p0.length % 128) % 128) (p0.length + 1,p0 ++ [128])).2) ++ (List.replicate 16 0)))),(128,.ints .i64 12 [1,8,7,19,61,6,14,18,41,28,34,39])])
      800 (⟨tt,⟨tt,trivial⟩⟩) ?_
    refine Tri.cond (x:=(decide (((k2:Int):Int) < 8))) (by kernel_rfl) (fun h4 => ?_) (fun h4 => ?_)
    ·
     have h4':=of_decide_eq_true h4
     refine Tri.skip ?_
     change Tri _ _ _ _ _ _
     refine Tri.seq ?_
     refine Tri.block ?_
     refine rr [] none [14,13,12,9,8,7,6,5,1] [672,720,496,128] (TT∧(TT∧((((0:Int)≤(k2:Int)∧(k2:Int) < ((8:Nat):Int))∧True)∧(((k2 < 8)∧True)∧(TT∧(TT∧((((0:Int)≤0)∧True)∧((((0:Int)≤(k2:Int)∧(k2:Int) < ((8:Nat):Int))∧True)∧((((k2 < 8)∧(1=1))∧True)∧True)))))))))
       ([(14,qi (k2:Int)),(13,qp 720 0),(12,qp 672 0),(9,.sc (.sl 496 0 (((itr (FD36w64l0) ((239 - p0.length % 128) % 128) (p0.length + 1,p0 ++ [128])).1) + 16) 1 none)),(8,qi 128),(7,qp 128 0),(6,.sc (.i .u64 18446744073709551615)),(5,qi 80),(1,qi 64)],[(672,.ints .u64 8 (z2.set k2 (iShr .u64 (z2.getD k2 0) 0))),(720,.ints .u64 80 (FD53)),(496,.ints .u8 (((itr (FD36w64l0) ((239 - p0.length % 128) % 128) (p0.length + 1,p0 ++ [128])).1) + 16) (itr (FD36w64l1 p0) 8 (((itr (FD36w64l0) ((239 - p0.length % 128) % 128) (p0.length + 1,p0 ++ [128])).2) ++ (List.replicate 16 0)))),(128,.ints .i64 12 [1,8,7,19,61,6,14,18,41,28,34,39])])
       944 (⟨tt,⟨tt,⟨⟨(by omega),trivial⟩,⟨⟨(by omega),trivial⟩,⟨tt,⟨tt,⟨⟨(by omega),trivial⟩,⟨⟨(by omega),trivial⟩,⟨⟨⟨(by omega),(rfl)⟩,trivial⟩,trivial⟩⟩⟩⟩⟩⟩⟩⟩⟩) ?_
     change Tri _ _ _ _ _ _
     refine rr [(85,.i .i64 ((k2 + 1:Nat):Int))] none [14,13,12,9,8,7,6,5,1] [672,720,496,128] (TT∧((True∧((iAdd .i64 (k2:Int) 1)=((k2 + 1:Nat):Int)))∧(TT∧True)))
       ([(14,qi ((k2 + 1:Nat):Int)),(13,qp 720 0),(12,qp 672 0),(9,.sc (.sl 496 0 (((itr (FD36w64l0) ((239 - p0.length % 128) % 128) (p0.length + 1,p0 ++ [128])).1) + 16) 1 none)),(8,qi 128),(7,qp 128 0),(6,.sc (.i .u64 18446744073709551615)),(5,qi 80),(1,qi 64)],[(672,.ints .u64 8 (z2.set k2 (iShr .u64 (z2.getD k2 0) 0))),(720,.ints .u64 80 (FD53)),(496,.ints .u8 (((itr (FD36w64l0) ((239 - p0.length % 128) % 128) (p0.length + 1,p0 ++ [128])).1) + 16) (itr (FD36w64l1 p0) 8 (((itr (FD36w64l0) ((239 - p0.length % 128) % 128) (p0.length + 1,p0 ++ [128])).2) ++ (List.replicate 16 0)))),(128,.ints .i64 12 [1,8,7,19,61,6,14,18,41,28,34,39])])
       992 (⟨tt,⟨⟨trivial,(iAdd_nat (a:=k2) (b:=1) (by omega))⟩,⟨tt,trivial⟩⟩⟩) ?_
     repeat (refine blkP_normal ?_)
     refine countP_normal (by omega) trivial ?_
     exact Sub.ren (ns:=[(720,720),(672,672),(496,496),(128,128)]) (kf:=[14,13,12,9,8,7,6,5,1]) (by kernel_rfl) (by kernel_rfl)
    ·
     have h4':=of_decide_eq_false h4
     refine Tri.exit ?_
     have hend2:k2=8:=by (have:=of_decide_eq_false h4; omega)
     subst hend2; subst hz2
     change Tri _ _ _ _ _ _
     refine Tri.seq ?_
     refine sr [] none [15,13,12,9,8,7,6,5,1] [720,672,496,128] (TT∧True)
       ([(15,qi 0),(13,qp 720 0),(12,qp 672 0),(9,.sc (.sl 496 0 (((itr (FD36w64l0) ((239 - p0.length % 128) % 128) (p0.length + 1,p0 ++ [128])).1) + 16) 1 none)),(8,qi 128),(7,qp 128 0),(6,.sc (.i .u64 18446744073709551615)),(5,qi 80),(1,qi 64)],[(720,.ints .u64 80 (FD53)),(672,.ints .u64 8 (itr (FD36w64l2) 8 [7640891576956012808,13503953896175478587,4354685564936845355,11912009170470909681,5840696475078001361,11170449401992604703,2270897969802886507,6620516959819538809])),(496,.ints .u8 (((itr (FD36w64l0) ((239 - p0.length % 128) % 128) (p0.length + 1,p0 ++ [128])).1) + 16) (itr (FD36w64l1 p0) 8 (((itr (FD36w64l0) ((239 - p0.length % 128) % 128) (p0.length + 1,p0 ++ [128])).2) ++ (List.replicate 16 0)))),(128,.ints .i64 12 [1,8,7,19,61,6,14,18,41,28,34,39])])
       816 (⟨tt,trivial⟩) ?_
     refine Tri.block ?_
     refine Tri.count 816 ((((itr (FD36w64l0) ((239 - p0.length % 128) % 128) (p0.length + 1,p0 ++ [128])).1) + 16) / 128) (FD36w64l3 p0) (itr (FD36w64l2) 8 [7640891576956012808,13503953896175478587,4354685564936845355,11912009170470909681,5840696475078001361,11170449401992604703,2270897969802886507,6620516959819538809]) (fun k3 z3 => True) (fun k3 z3 => ([(15,qi ((128 * k3:Nat):Int)),(13,qp 720 0),(12,qp 672 0),(9,.sc (.sl 496 0 (((itr (FD36w64l0) ((239 - p0.length % 128) % 128) (p0.length + 1,p0 ++ [128])).1) + 16) 1 none)),(8,qi 128),(7,qp 128 0),(6,.sc (.i .u64 18446744073709551615)),(5,qi 80),(1,qi 64)],[(720,.ints .u64 80 (FD53)),(672,.ints .u64 8 z3),(496,.ints .u8 (((itr (FD36w64l0) ((239 - p0.length % 128) % 128) (p0.length + 1,p0 ++ [128])).1) + 16) (itr (FD36w64l1 p0) 8 (((itr (FD36w64l0) ((239 - p0.length % 128) % 128) (p0.length + 1,p0 ++ [128])).2) ++ (List.replicate 16 0)))),(128,.ints .i64 12 [1,8,7,19,61,6,14,18,41,28,34,39])])) trivial (Sub.of_eq (by kernel_rfl)) ?_
     intro k3 z3 hk3 hz3 hJ3
     refine Tri.seq ?_
     refine sr [] none [97,15,13,12,9,8,7,6,5,1] [720,672,496,128] (TT∧(TT∧(TT∧(TT∧True))))
       ([(97,.sc (.b (decide ((((128 * k3:Nat):Int):Int) < ((((itr (FD36w64l0) ((239 - p0.length % 128) % 128) (p0.length + 1,p0 ++ [128])).1) + 16:Nat):Int))))),(15,qi ((128 * k3:Nat):Int)),(13,qp 720 0),(12,qp 672 0),(9,.sc (.sl 496 0 (((itr (FD36w64l0) ((239 - p0.length % 128) % 128) (p0.length + 1,p0 ++ [128])).1) + 16) 1 none)),(8,qi 128),(7,qp 128 0),(6,.sc (.i .u64 18446744073709551615)),(5,qi 80),(1,qi 64)],[(720,.ints .u64 80 (FD53)),(672,.ints .u64 8 z3),(496,.ints .u8 (((itr (FD36w64l0) ((239 - p0.length % 128) % 128) (p0.length + 1,p0 ++ [128])).1) + 16) (itr (FD36w64l1 p0) 8 (((itr (FD36w64l0) ((239 - p0.length % 128) % 128) (p0.length + 1,p0 ++ [128])).2) ++ (List.replicate 16 0)))),(128,.ints .i64 12 [1,8,7,19,61,6,14,18,41,28,34,39])])
       880 (⟨tt,⟨tt,⟨tt,⟨tt,trivial⟩⟩⟩⟩) ?_
     refine Tri.cond (x:=(decide ((((128 * k3:Nat):Int):Int) < ((((itr (FD36w64l0) ((239 - p0.length % 128) % 128) (p0.length + 1,p0 ++ [128])).1) + 16:Nat):Int)))) (by kernel_rfl) (fun h5 => ?_) (fun h5 => ?_)
     ·
      have h5':=of_decide_eq_true h5
      refine Tri.skip ?_
      change Tri _ _ _ _ _ _
      refine Tri.seq ?_
      refine Tri.block ?_
      refine sr [] none [16,15,13,12,9,8,7,6,5,1] [880,720,672,496,128] (TT∧True)
        ([(16,qp 880 0),(15,qi ((128 * k3:Nat):Int)),(13,qp 720 0),(12,qp 672 0),(9,.sc (.sl 496 0 (((itr (FD36w64l0) ((239 - p0.length % 128) % 128) (p0.length + 1,p0 ++ [128])).1) + 16) 1 none)),(8,qi 128),(7,qp 128 0),(6,.sc (.i .u64 18446744073709551615)),(5,qi 80),(1,qi 64)],[(880,.ints .u64 80 [0,0,0,0,0,0,0,0,0,0,0,0,0,0,0,0,0,0,0,0,0,0,0,0,0,0,0,0,0,0,0,0,0,0,0,0,0,0,0,0,0,0,0,0,0,0,0,0,0,0,0,0,0,0,0,0,0,0,0,0,0,0,0,0,0,0,0,0,0,0,0,0,0,0,0,0,0,0,0,0]),(720,.ints .u64 80 (FD53)),(672,.ints .u64 8 z3),(496,.ints .u8 (((itr (FD36w64l0) ((239 - p0.length % 128) % 128) (p0.length + 1,p0 ++ [128])).1) + 16) (itr (FD36w64l1 p0) 8 (((itr (FD36w64l0) ((239 - p0.length % 128) % 128) (p0.length + 1,p0 ++ [128])).2) ++ (List.replicate 16 0)))),(128,.ints .i64 12 [1,8,7,19,61,6,14,18,41,28,34,39])])
        896 (⟨tt,trivial⟩) ?_
      refine Tri.seq ?_
      refine sr [] none [17,16,15,13,12,9,8,7,6,5,1] [880,720,672,496,128] (TT∧True)
        ([(17,qi 0),(16,qp 880 0),(15,qi ((128 * k3:Nat):Int)),(13,qp 720 0),(12,qp 672 0),(9,.sc (.sl 496 0 (((itr (FD36w64l0) ((239 - p0.length % 128) % 128) (p0.length + 1,p0 ++ [128])).1) + 16) 1 none)),(8,qi 128),(7,qp 128 0),(6,.sc (.i .u64 18446744073709551615)),(5,qi 80),(1,qi 64)],[(880,.ints .u64 80 [0,0,0,0,0,0,0,0,0,0,0,0,0,0,0,0,0,0,0,0,0,0,0,0,0,0,0,0,0,0,0,0,0,0,0,0,0,0,0,0,0,0,0,0,0,0,0,0,0,0,0,0,0,0,0,0,0,0,0,0,0,0,0,0,0,0,0,0,0,0,0,0,0,0,0,0,0,0,0,0]),(720,.ints .u64 80 (FD53)),(672,.ints .u64 8 z3),(496,.ints .u8 (((itr (FD36w64l0) ((239 - p0.length % 128) % 128) (p0.length + 1,p0 ++ [128])).1) + 16) (itr (FD36w64l1 p0) 8 (((itr (FD36w64l0) ((239 - p0.length % 128) % 128) (p0.length + 1,p0 ++ [128])).2) ++ (List.replicate 16 0)))),(128,.ints .i64 12 [1,8,7,19,61,6,14,18,41,28,34,39])])
        912 (⟨tt,trivial⟩) ?_
      refine Tri.block ?_
      refine Tri.count 912 128 (FD36w64l4 p0 k3) [0,0,0,0,0,0,0,0,0,0,0,0,0,0,0,0,0,0,0,0,0,0,0,0,0,0,0,0,0,0,0,0,0,0,0,0,0,0,0,0,0,0,0,0,0,0,0,0,0,0,0,0,0,0,0,0,0,0,0,0,0,0,0,0,0,0,0,0,0,0,0,0,0,0,0,0,0,0,0,0] (fun k4 z4 => True) (fun k4 z4 => ([(17,qi (k4:Int)),(16,qp 880 0),(15,qi ((128 * k3:Nat):Int)),(13,qp 720 0),(12,qp 672 0),(9,.sc (.sl 496 0 (((itr (FD36w64l0) ((239 - p0.length % 128) % 128) (p0.length + 1,p0 ++ [128])).1) + 16) 1 none)),(8,qi 128),(7,qp 128 0),(6,.sc (.i .u64 18446744073709551615)),(5,qi 80),(1,qi 64)],[(880,.ints .u64 80 z4),(720,.ints .u64 80 (FD53)),(672,.ints .u64 8 z3),(496,.ints .u8 (((itr (FD36w64l0) ((239 - p0.length % 128) % 128) (p0.length + 1,p0 ++ [128])).1) + 16) (itr (FD36w64l1 p0) 8 (((itr (FD36w64l0) ((239 - p0.length % 128) % 128) (p0.length + 1,p0 ++ [128])).2) ++ (List.replicate 16 0)))),(128,.ints .i64 12 [1,8,7,19,61,6,14,18,41,28,34,39])])) trivial (Sub.of_eq (by kernel_rfl)) ?_
      intro k4 z4 hk4 hz4 hJ4
      refine Tri.seq ?_
      refine sr [] none [103,17,16,15,13,12,9,8,7,6,5,1] [880,720,672,496,128] (TT∧(TT∧(TT∧True)))
        ([(103,.sc (.b (decide (((k4:Int):Int) < 128)))),(17,qi (k4:Int)),(16,qp 880 0),(15,qi ((128 * k3:Nat):Int)),(13,qp 720 0),(12,qp 672 0),(9,.sc (.sl 496 0 (((itr (FD36w64l0) ((239 - p0.length % 128) % 128) (p0.length + 1,p0 ++ [128])).1) + 16) 1 none)),(8,qi 128),(7,qp 128 0),(6,.sc (.i .u64 18446744073709551615)),(5,qi 80),(1,qi 64)],[(880,.ints .u64 80 z4),(720,.ints .u64 80 (FD53)),(672,.ints .u64 8 z3),(496,.ints .u8 (((itr (FD36w64l0) ((239 - p0.length % 128) % 128) (p0.length + 1,p0 ++ [128])).1) + 16) (itr (FD36w64l1 p0) 8 (((itr (FD36w64l0) ((239 - p0.length % 128) % 128) (p0.length + 1,p0 ++ [128])).2) ++ (List.replicate 16 0)))),(128,.ints .i64 12 [1,8,7,19,61,6,14,18,41,28,34,39])])
        960 (⟨tt,⟨tt,⟨tt,trivial⟩⟩⟩) ?_
      refine Tri.cond (x:=(decide (((k4:Int):Int) < 128))) (by kernel_rfl) (fun h6 => ?_) (fun h6 => ?_)
      ·
       have h6':=of_decide_eq_true h6
       refine Tri.skip ?_
       change Tri _ _ _ _ _ _
       refine Tri.seq ?_
       refine Tri.block ?_
       refine rr [(107,.i .i64 ((8 * k4:Nat):Int)),(109,.i .i64 (((8 * k4) / 64:Nat):Int)),(111,.i .i64 ((8 * k4:Nat):Int)),(113,.i .i64 (((8 * k4) / 64:Nat):Int)),(120,.i .i64 (((128 * k3) + k4:Nat):Int))] (some [0,1,0,7,0,16,0,112,240,496,1008,0,0,0,12288,30720,63488,129024,262128,524287,1048575]) [17,16,15,13,12,9,8,7,6,5,1] [880,720,672,496,128] (TT∧((True∧((iMul .i64 8 (k4:Int))=((8 * k4:Nat):Int)))∧(TT∧(((64 ≠ (0:Int))∧((iQuo .i64 ((8 * k4:Nat):Int) 64)=(((8 * k4) / 64:Nat):Int)))∧(TT∧((True∧((iMul .i64 8 (k4:Int))=((8 * k4:Nat):Int)))∧(TT∧(((64 ≠ (0:Int))∧((iQuo .i64 ((8 * k4:Nat):Int) 64)=(((8 * k4) / 64:Nat):Int)))∧((((0:Int)≤(((8 * k4) / 64:Nat):Int)∧(((8 * k4) / 64:Nat):Int) < ((80:Nat):Int))∧True)∧((((8 * k4) / 64 < 80)∧True)∧(TT∧(TT∧(TT∧(TT∧((True∧((iAdd .i64 ((128 * k3:Nat):Int) (k4:Int))=(((128 * k3) + k4:Nat):Int)))∧((((0:Int)≤(((128 * k3) + k4:Nat):Int)∧(((128 * k3) + k4:Nat):Int) < ((((itr (FD36w64l0) ((239 - p0.length % 128) % 128) (p0.length + 1,p0 ++ [128])).1) + 16:Nat):Int))∧True)∧((((128 * k3) + k4 < ((itr (FD36w64l0) ((239 - p0.length % 128) % 128) (p0.length + 1,p0 ++ [128])).1) + 16)∧True)∧(TT∧(TT∧((((0:Int)≤(((8 * k4) / 64:Nat):Int)∧(((8 * k4) / 64:Nat):Int) < ((80:Nat):Int))∧True)∧(((((8 * k4) / 64 < 80)∧(1=1))∧True)∧True)))))))))))))))))))))
         ([(17,qi (k4:Int)),(16,qp 880 0),(15,qi ((128 * k3:Nat):Int)),(13,qp 720 0),(12,qp 672 0),(9,.sc (.sl 496 0 (((itr (FD36w64l0) ((239 - p0.length % 128) % 128) (p0.length + 1,p0 ++ [128])).1) + 16) 1 none)),(8,qi 128),(7,qp 128 0),(6,.sc (.i .u64 18446744073709551615)),(5,qi 80),(1,qi 64)],[(880,.ints .u64 80 (z4.set ((8 * k4) / 64) (iAdd .u64 (iMul .u64 (z4.getD ((8 * k4) / 64) 0) 256) (IntKind.wrap .u64 ((itr (FD36w64l1 p0) 8 (((itr (FD36w64l0) ((239 - p0.length % 128) % 128) (p0.length + 1,p0 ++ [128])).2) ++ (List.replicate 16 0))).getD ((128 * k3) + k4) 0))))),(720,.ints .u64 80 (FD53)),(672,.ints .u64 8 z3),(496,.ints .u8 (((itr (FD36w64l0) ((239 - p0.length % 128) % 128) (p0.length + 1,p0 ++ [128])).1) + 16) (itr (FD36w64l1 p0) 8 (((itr (FD36w64l0) ((239 - p0.length % 128) % 128) (p0.length + 1,p0 ++ [128])).2) ++ (List.replicate 16 0)))),(128,.ints .i64 12 [1,8,7,19,61,6,14,18,41,28,34,39])])
         1296 (⟨tt,⟨⟨trivial,(iMul_nat (a:=8) (b:=k4) (by omega))⟩,⟨tt,⟨⟨(by omega),(iQuo_nat (a:=8 * k4) (b:=64) (by omega))⟩,⟨tt,⟨⟨trivial,(iMul_nat (a:=8) (b:=k4) (by omega))⟩,⟨tt,⟨⟨(by omega),(iQuo_nat (a:=8 * k4) (b:=64) (by omega))⟩,⟨⟨(by omega),trivial⟩,⟨⟨(by omega),trivial⟩,⟨tt,⟨tt,⟨tt,⟨tt,⟨⟨trivial,(iAdd_nat (a:=128 * k3) (b:=k4) (by omega))⟩,⟨⟨(by omega),trivial⟩,⟨⟨(by omega),trivial⟩,⟨tt,⟨tt,⟨⟨(by omega),trivial⟩,⟨⟨⟨(by omega),(rfl)⟩,trivial⟩,trivial⟩⟩⟩⟩⟩⟩⟩⟩⟩⟩⟩⟩⟩⟩⟩⟩⟩⟩⟩⟩⟩) ?_
       change Tri _ _ _ _ _ _
       refine rr [(105,.i .i64 ((k4 + 1:Nat):Int))] none [17,16,15,13,12,9,8,7,6,5,1] [880,720,672,496,128] (TT∧((True∧((iAdd .i64 (k4:Int) 1)=((k4 + 1:Nat):Int)))∧(TT∧True)))
         ([(17,qi ((k4 + 1:Nat):Int)),(16,qp 880 0),(15,qi ((128 * k3:Nat):Int)),(13,qp 720 0),(12,qp 672 0),(9,.sc (.sl 496 0 (((itr (FD36w64l0) ((239 - p0.length % 128) % 128) (p0.length + 1,p0 ++ [128])).1) + 16) 1 none)),(8,qi 128),(7,qp 128 0),(6,.sc (.i .u64 18446744073709551615)),(5,qi 80),(1,qi 64)],[(880,.ints .u64 80 (z4.set ((8 * k4) / 64) (iAdd .u64 (iMul .u64 (z4.getD ((8 * k4) / 64) 0) 256) (IntKind.wrap .u64 ((itr (FD36w64l1 p0) 8 (((itr (FD36w64l0) ((239 - p0.length % 128) % 128) (p0.length + 1,p0 ++ [128])).2) ++ (List.replicate 16 0))).getD ((128 * k3) + k4) 0))))),(720,.ints .u64 80 (FD53)),(672,.ints .u64 8 z3),(496,.ints .u8 (((itr (FD36w64l0) ((239 - p0.length % 128) % 128) (p0.length + 1,p0 ++ [128])).1) + 16) (itr (FD36w64l1 p0) 8 (((itr (FD36w64l0) ((239 - p0.length % 128) % 128) (p0.length + 1,p0 ++ [128])).2) ++ (List.replicate 16 0)))),(128,.ints .i64 12 [1,8,7,19,61,6,14,18,41,28,34,39])])
         1344 (⟨tt,⟨⟨trivial,(iAdd_nat (a:=k4) (b:=1) (by omega))⟩,⟨tt,trivial⟩⟩⟩) ?_
       repeat (refine blkP_normal ?_)
       refine countP_normal (by omega) trivial ?_
       exact Sub.ren (ns:=[(880,880),(720,720),(672,672),(496,496),(128,128)]) (kf:=[17,16,15,13,12,9,8,7,6,5,1]) (by kernel_rfl) (by kernel_rfl)
      ·
       have h6':=of_decide_eq_false h6
       refine Tri.exit ?_
       have hend4:k4=128:=by (have:=of_decide_eq_false h6; omega)
       subst hend4; subst hz4
       change Tri _ _ _ _ _ _
       refine Tri.seq ?_
       refine sr [] none [18,16,15,13,12,9,8,7,6,5,1] [880,720,672,496,128] (TT∧True)
         ([(18,qi 16),(16,qp 880 0),(15,qi ((128 * k3:Nat):Int)),(13,qp 720 0),(12,qp 672 0),(9,.sc (.sl 496 0 (((itr (FD36w64l0) ((239 - p0.length % 128) % 128) (p0.length + 1,p0 ++ [128])).1) + 16) 1 none)),(8,qi 128),(7,qp 128 0),(6,.sc (.i .u64 18446744073709551615)),(5,qi 80),(1,qi 64)],[(880,.ints .u64 80 (itr (FD36w64l4 p0 k3) 128 [0,0,0,0,0,0,0,0,0,0,0,0,0,0,0,0,0,0,0,0,0,0,0,0,0,0,0,0,0,0,0,0,0,0,0,0,0,0,0,0,0,0,0,0,0,0,0,0,0,0,0,0,0,0,0,0,0,0,0,0,0,0,0,0,0,0,0,0,0,0,0,0,0,0,0,0,0,0,0,0])),(720,.ints .u64 80 (FD53)),(672,.ints .u64 8 z3),(496,.ints .u8 (((itr (FD36w64l0) ((239 - p0.length % 128) % 128) (p0.length + 1,p0 ++ [128])).1) + 16) (itr (FD36w64l1 p0) 8 (((itr (FD36w64l0) ((239 - p0.length % 128) % 128) (p0.length + 1,p0 ++ [128])).2) ++ (List.replicate 16 0)))),(128,.ints .i64 12 [1,8,7,19,61,6,14,18,41,28,34,39])])
         976 (⟨tt,trivial⟩) ?_
       refine Tri.block ?_
       refine Tri.count 976 64 (FD36w64l5) (itr (FD36w64l4 p0 k3) 128 [0,0,0,0,0,0,0,0,0,0,0,0,0,0,0,0,0,0,0,0,0,0,0,0,0,0,0,0,0,0,0,0,0,0,0,0,0,0,0,0,0,0,0,0,0,0,0,0,0,0,0,0,0,0,0,0,0,0,0,0,0,0,0,0,0,0,0,0,0,0,0,0,0,0,0,0,0,0,0,0]) (fun k5 z5 => True) (fun k5 z5 => ([(18,qi ((k5 + 16:Nat):Int)),(16,qp 880 0),(15,qi ((128 * k3:Nat):Int)),(13,qp 720 0),(12,qp 672 0),(9,.sc (.sl 496 0 (((itr (FD36w64l0) ((239 - p0.length % 128) % 128) (p0.length + 1,p0 ++ [128])).1) + 16) 1 none)),(8,qi 128),(7,qp 128 0),(6,.sc (.i .u64 18446744073709551615)),(5,qi 80),(1,qi 64)],[(880,.ints .u64 80 z5),(720,.ints .u64 80 (FD53)),(672,.ints .u64 8 z3),(496,.ints .u8 (((itr (FD36w64l0) ((239 - p0.length % 128) % 128) (p0.length + 1,p0 ++ [128])).1) + 16) (itr (FD36w64l1 p0) 8 (((itr (FD36w64l0) ((239 - p0.length % 128) % 128) (p0.length + 1,p0 ++ [128])).2) ++ (List.replicate 16 0)))),(128,.ints .i64 12 [1,8,7,19,61,6,14,18,41,28,34,39])])) trivial (Sub.of_eq (by kernel_rfl)) ?_
       intro k5 z5 hk5 hz5 hJ5
       refine Tri.seq ?_
       refine sr [] none [128,18,16,15,13,12,9,8,7,6,5,1] [880,720,672,496,128] (TT∧(TT∧(TT∧True)))
         ([(128,.sc (.b (decide ((((k5 + 16:Nat):Int):Int) < 80)))),(18,qi ((k5 + 16:Nat):Int)),(16,qp 880 0),(15,qi ((128 * k3:Nat):Int)),(13,qp 720 0),(12,qp 672 0),(9,.sc (.sl 496 0 (((itr (FD36w64l0) ((239 - p0.length % 128) % 128) (p0.length + 1,p0 ++ [128])).1) + 16) 1 none)),(8,qi 128),(7,qp 128 0),(6,.sc (.i .u64 18446744073709551615)),(5,qi 80),(1,qi 64)],[(880,.ints .u64 80 z5),(720,.ints .u64 80 (FD53)),(672,.ints .u64 8 z3),(496,.ints .u8 (((itr (FD36w64l0) ((239 - p0.length % 128) % 128) (p0.length + 1,p0 ++ [128])).1) + 16) (itr (FD36w64l1 p0) 8 (((itr (FD36w64l0) ((239 - p0.length % 128) % 128) (p0.length + 1,p0 ++ [128])).2) ++ (List.replicate 16 0)))),(128,.ints .i64 12 [1,8,7,19,61,6,14,18,41,28,34,39])])
         1024 (⟨tt,⟨tt,⟨tt,trivial⟩⟩⟩) ?_
       refine Tri.cond (x:=(decide ((((k5 + 16:Nat):Int):Int) < 80))) (by kernel_rfl) (fun h7 => ?_) (fun h7 => ?_)
       ·
        have h7':=of_decide_eq_true h7
        refine Tri.skip ?_
        change Tri _ _ _ _ _ _
        refine Tri.seq ?_
        refine Tri.block ?_
        refine rr [(133,.i .i64 (((k5 + 16) - 16:Nat):Int)),(137,.i .i64 (((k5 + 16) - 7:Nat):Int)),(142,.i .i64 (((k5 + 16) - 15:Nat):Int)),(151,.i .i64 (((k5 + 16) - 2:Nat):Int))] (some [0,0,2,6,14,0,32,96,224,510,0,1024,3072,7168,0,16384,0,130048,262142,0,524288,1572864,3670016,0,8388608,0,66845696,134217726,0,536870910,1073741823,2147483647]) [18,16,15,13,12,9,8,7,6,5,1] [880,720,672,496,128] (TT∧(TT∧((True∧((iSub .i64 ((k5 + 16:Nat):Int) 16)=(((k5 + 16) - 16:Nat):Int)))∧((((0:Int)≤(((k5 + 16) - 16:Nat):Int)∧(((k5 + 16) - 16:Nat):Int) < ((80:Nat):Int))∧True)∧((((k5 + 16) - 16 < 80)∧True)∧(TT∧((True∧((iSub .i64 ((k5 + 16:Nat):Int) 7)=(((k5 + 16) - 7:Nat):Int)))∧((((0:Int)≤(((k5 + 16) - 7:Nat):Int)∧(((k5 + 16) - 7:Nat):Int) < ((80:Nat):Int))∧True)∧((((k5 + 16) - 7 < 80)∧True)∧(TT∧(TT∧((True∧((iSub .i64 ((k5 + 16:Nat):Int) 15)=(((k5 + 16) - 15:Nat):Int)))∧((((0:Int)≤(((k5 + 16) - 15:Nat):Int)∧(((k5 + 16) - 15:Nat):Int) < ((80:Nat):Int))∧True)∧((((k5 + 16) - 15 < 80)∧True)∧((((0:Int)≤0∧0 < ((4:Nat):Int))∧True)∧(((0 + 3≤12)∧True)∧(TT∧(((True∧(turns 64 [1,8,7]))∧True)∧(TT∧(TT∧((True∧((iSub .i64 ((k5 + 16:Nat):Int) 2)=(((k5 + 16) - 2:Nat):Int)))∧((((0:Int)≤(((k5 + 16) - 2:Nat):Int)∧(((k5 + 16) - 2:Nat):Int) < ((80:Nat):Int))∧True)∧((((k5 + 16) - 2 < 80)∧True)∧((((0:Int)≤1∧1 < ((4:Nat):Int))∧True)∧(((3 + 3≤12)∧True)∧(TT∧(((True∧(turns 64 [19,61,6]))∧True)∧(TT∧(TT∧(TT∧((((0:Int)≤((k5 + 16:Nat):Int)∧((k5 + 16:Nat):Int) < ((80:Nat):Int))∧True)∧((((k5 + 16 < 80)∧(1=1))∧True)∧True))))))))))))))))))))))))))))))))
          ([(18,qi ((k5 + 16:Nat):Int)),(16,qp 880 0),(15,qi ((128 * k3:Nat):Int)),(13,qp 720 0),(12,qp 672 0),(9,.sc (.sl 496 0 (((itr (FD36w64l0) ((239 - p0.length % 128) % 128) (p0.length + 1,p0 ++ [128])).1) + 16) 1 none)),(8,qi 128),(7,qp 128 0),(6,.sc (.i .u64 18446744073709551615)),(5,qi 80),(1,qi 64)],[(880,.ints .u64 80 (z5.set (k5 + 16) (iAnd .u64 (iAdd .u64 (iAdd .u64 (iAdd .u64 (z5.getD ((k5 + 16) - 16) 0) (z5.getD ((k5 + 16) - 7) 0)) (FD54w64 (z5.getD ((k5 + 16) - 15) 0) [1,8,7] true)) (FD54w64 (z5.getD ((k5 + 16) - 2) 0) [19,61,6] true)) 18446744073709551615))),(720,.ints .u64 80 (FD53)),(672,.ints .u64 8 z3),(496,.ints .u8 (((itr (FD36w64l0) ((239 - p0.length % 128) % 128) (p0.length + 1,p0 ++ [128])).1) + 16) (itr (FD36w64l1 p0) 8 (((itr (FD36w64l0) ((239 - p0.length % 128) % 128) (p0.length + 1,p0 ++ [128])).2) ++ (List.replicate 16 0)))),(128,.ints .i64 12 [1,8,7,19,61,6,14,18,41,28,34,39])])
          1536 (⟨tt,⟨tt,⟨⟨trivial,(iSub_nat (a:=k5 + 16) (b:=16) (by omega) (by omega))⟩,⟨⟨(by omega),trivial⟩,⟨⟨(by omega),trivial⟩,⟨tt,⟨⟨trivial,(iSub_nat (a:=k5 + 16) (b:=7) (by omega) (by omega))⟩,⟨⟨(by omega),trivial⟩,⟨⟨(by omega),trivial⟩,⟨tt,⟨tt,⟨⟨trivial,(iSub_nat (a:=k5 + 16) (b:=15) (by omega) (by omega))⟩,⟨⟨(by omega),trivial⟩,⟨⟨(by omega),trivial⟩,⟨⟨(by omega),trivial⟩,⟨⟨(by omega),trivial⟩,⟨tt,⟨⟨⟨trivial,(by unfold turns; decide)⟩,trivial⟩,⟨tt,⟨tt,⟨⟨trivial,(iSub_nat (a:=k5 + 16) (b:=2) (by omega) (by omega))⟩,⟨⟨(by omega),trivial⟩,⟨⟨(by omega),trivial⟩,⟨⟨(by omega),trivial⟩,⟨⟨(by omega),trivial⟩,⟨tt,⟨⟨⟨trivial,(by unfold turns; decide)⟩,trivial⟩,⟨tt,⟨tt,⟨tt,⟨⟨(by omega),trivial⟩,⟨⟨⟨(by omega),(rfl)⟩,trivial⟩,trivial⟩⟩⟩⟩⟩⟩⟩⟩⟩⟩⟩⟩⟩⟩⟩⟩⟩⟩⟩⟩⟩⟩⟩⟩⟩⟩⟩⟩⟩⟩⟩⟩) ?_
        change Tri _ _ _ _ _ _
        refine rr [(130,.i .i64 (((k5 + 16) + 1:Nat):Int))] none [18,16,15,13,12,9,8,7,6,5,1] [880,720,672,496,128] (TT∧((True∧((iAdd .i64 ((k5 + 16:Nat):Int) 1)=(((k5 + 16) + 1:Nat):Int)))∧(TT∧True)))
          ([(18,qi (((k5 + 16) + 1:Nat):Int)),(16,qp 880 0),(15,qi ((128 * k3:Nat):Int)),(13,qp 720 0),(12,qp 672 0),(9,.sc (.sl 496 0 (((itr (FD36w64l0) ((239 - p0.length % 128) % 128) (p0.length + 1,p0 ++ [128])).1) + 16) 1 none)),(8,qi 128),(7,qp 128 0),(6,.sc (.i .u64 18446744073709551615)),(5,qi 80),(1,qi 64)],[(880,.ints .u64 80 (z5.set (k5 + 16) (iAnd .u64 (iAdd .u64 (iAdd .u64 (iAdd .u64 (z5.getD ((k5 + 16) - 16) 0) (z5.getD ((k5 + 16) - 7) 0)) (FD54w64 (z5.getD ((k5 + 16) - 15) 0) [1,8,7] true)) (FD54w64 (z5.getD ((k5 + 16) - 2) 0) [19,61,6] true)) 18446744073709551615))),(720,.ints .u64 80 (FD53)),(672,.ints .u64 8 z3),(496,.ints .u8 (((itr (FD36w64l0) ((239 - p0.length % 128) % 128) (p0.length + 1,p0 ++ [128])).1) + 16) (itr (FD36w64l1 p0) 8 (((itr (FD36w64l0) ((239 - p0.length % 128) % 128) (p0.length + 1,p0 ++ [128])).2) ++ (List.replicate 16 0)))),(128,.ints .i64 12 [1,8,7,19,61,6,14,18,41,28,34,39])])
          1584 (⟨tt,⟨⟨trivial,(iAdd_nat (a:=k5 + 16) (b:=1) (by omega))⟩,⟨tt,trivial⟩⟩⟩) ?_
        repeat (refine blkP_normal ?_)
        refine countP_normal (by omega) trivial ?_
        exact Sub.ren (ns:=[(880,880),(720,720),(672,672),(496,496),(128,128)]) (kf:=[18,16,15,13,12,9,8,7,6,5,1]) (by kernel_rfl) (by kernel_rfl)
       ·
        have h7':=of_decide_eq_false h7
        refine Tri.exit ?_
        have hend5:k5=64:=by (have:=of_decide_eq_false h7; omega)
        subst hend5; subst hz5
        change Tri _ _ _ _ _ _
        refine sr [] none [19,16,15,13,12,9,8,7,6,5,1] [1040,880,720,672,496,128] (TT∧(TT∧(((True∧(8=8))∧True)∧True)))
          ([(19,qp 1040 0),(16,qp 880 0),(15,qi ((128 * k3:Nat):Int)),(13,qp 720 0),(12,qp 672 0),(9,.sc (.sl 496 0 (((itr (FD36w64l0) ((239 - p0.length % 128) % 128) (p0.length + 1,p0 ++ [128])).1) + 16) 1 none)),(8,qi 128),(7,qp 128 0),(6,.sc (.i .u64 18446744073709551615)),(5,qi 80),(1,qi 64)],[(1040,.ints .u64 8 z3),(880,.ints .u64 80 (itr (FD36w64l5) 64 (itr (FD36w64l4 p0 k3) 128 [0,0,0,0,0,0,0,0,0,0,0,0,0,0,0,0,0,0,0,0,0,0,0,0,0,0,0,0,0,0,0,0,0,0,0,0,0,0,0,0,0,0,0,0,0,0,0,0,0,0,0,0,0,0,0,0,0,0,0,0,0,0,0,0,0,0,0,0,0,0,0,0,0,0,0,0,0,0,0,0]))),(720,.ints .u64 80 (FD53)),(672,.ints .u64 8 z3),(496,.ints .u8 (((itr (FD36w64l0) ((239 - p0.length % 128) % 128) (p0.length + 1,p0 ++ [128])).1) + 16) (itr (FD36w64l1 p0) 8 (((itr (FD36w64l0) ((239 - p0.length % 128) % 128) (p0.length + 1,p0 ++ [128])).2) ++ (List.replicate 16 0)))),(128,.ints .i64 12 [1,8,7,19,61,6,14,18,41,28,34,39])])
          1072 (⟨tt,⟨tt,⟨⟨⟨trivial,(rfl)⟩,trivial⟩,trivial⟩⟩⟩) ?_
        refine Tri.seq ?_
        refine sr [] none [20,19,16,15,13,12,9,8,7,6,5,1] [1040,880,720,672,496,128] (TT∧True)
          ([(20,qi 0),(19,qp 1040 0),(16,qp 880 0),(15,qi ((128 * k3:Nat):Int)),(13,qp 720 0),(12,qp 672 0),(9,.sc (.sl 496 0 (((itr (FD36w64l0) ((239 - p0.length % 128) % 128) (p0.length + 1,p0 ++ [128])).1) + 16) 1 none)),(8,qi 128),(7,qp 128 0),(6,.sc (.i .u64 18446744073709551615)),(5,qi 80),(1,qi 64)],[(1040,.ints .u64 8 z3),(880,.ints .u64 80 (itr (FD36w64l5) 64 (itr (FD36w64l4 p0 k3) 128 [0,0,0,0,0,0,0,0,0,0,0,0,0,0,0,0,0,0,0,0,0,0,0,0,0,0,0,0,0,0,0,0,0,0,0,0,0,0,0,0,0,0,0,0,0,0,0,0,0,0,0,0,0,0,0,0,0,0,0,0,0,0,0,0,0,0,0,0,0,0,0,0,0,0,0,0,0,0,0,0]))),(720,.ints .u64 80 (FD53)),(672,.ints .u64 8 z3),(496,.ints .u8 (((itr (FD36w64l0) ((239 - p0.length % 128) % 128) (p0.length + 1,p0 ++ [128])).1) + 16) (itr (FD36w64l1 p0) 8 (((itr (FD36w64l0) ((239 - p0.length % 128) % 128) (p0.length + 1,p0 ++ [128])).2) ++ (List.replicate 16 0)))),(128,.ints .i64 12 [1,8,7,19,61,6,14,18,41,28,34,39])])
          1088 (⟨tt,trivial⟩) ?_
        refine Tri.block ?_
        refine Tri.count 1088 80 (FD36w64l6 p0 k3) z3 (fun k6 z6 => True) (fun k6 z6 => ([(20,qi (k6:Int)),(19,qp 1040 0),(16,qp 880 0),(15,qi ((128 * k3:Nat):Int)),(13,qp 720 0),(12,qp 672 0),(9,.sc (.sl 496 0 (((itr (FD36w64l0) ((239 - p0.length % 128) % 128) (p0.length + 1,p0 ++ [128])).1) + 16) 1 none)),(8,qi 128),(7,qp 128 0),(6,.sc (.i .u64 18446744073709551615)),(5,qi 80),(1,qi 64)],[(1040,.ints .u64 8 z6),(880,.ints .u64 80 (itr (FD36w64l5) 64 (itr (FD36w64l4 p0 k3) 128 [0,0,0,0,0,0,0,0,0,0,0,0,0,0,0,0,0,0,0,0,0,0,0,0,0,0,0,0,0,0,0,0,0,0,0,0,0,0,0,0,0,0,0,0,0,0,0,0,0,0,0,0,0,0,0,0,0,0,0,0,0,0,0,0,0,0,0,0,0,0,0,0,0,0,0,0,0,0,0,0]))),(720,.ints .u64 80 (FD53)),(672,.ints .u64 8 z3),(496,.ints .u8 (((itr (FD36w64l0) ((239 - p0.length % 128) % 128) (p0.length + 1,p0 ++ [128])).1) + 16) (itr (FD36w64l1 p0) 8 (((itr (FD36w64l0) ((239 - p0.length % 128) % 128) (p0.length + 1,p0 ++ [128])).2) ++ (List.replicate 16 0)))),(128,.ints .i64 12 [1,8,7,19,61,6,14,18,41,28,34,39])])) trivial (Sub.of_eq (by kernel_rfl)) ?_
        intro k6 z6 hk6 hz6 hJ6
        refine Tri.seq ?_
        refine sr [] none [165,20,19,16,15,13,12,9,8,7,6,5,1] [1040,880,720,672,496,128] (TT∧(TT∧(TT∧True)))
          ([(165,.sc (.b (decide (((k6:Int):Int) < 80)))),(20,qi (k6:Int)),(19,qp 1040 0),(16,qp 880 0),(15,qi ((128 * k3:Nat):Int)),(13,qp 720 0),(12,qp 672 0),(9,.sc (.sl 496 0 (((itr (FD36w64l0) ((239 - p0.length % 128) % 128) (p0.length + 1,p0 ++ [128])).1) + 16) 1 none)),(8,qi 128),(7,qp 128 0),(6,.sc (.i .u64 18446744073709551615)),(5,qi 80),(1,qi 64)],[(1040,.ints .u64 8 z6),(880,.ints .u64 80 (itr (FD36w64l5) 64 (itr (FD36w64l4 p0 k3) 128 [0,0,0,0,0,0,0,0,0,0,0,0,0,0,0,0,0,0,0,0,0,0,0,0,0,0,0,0,0,0,0,0,0,0,0,0,0,0,0,0,0,0,0,0,0,0,0,0,0,0,0,0,0,0,0,0,0,0,0,0,0,0,0,0,0,0,0,0,0,0,0,0,0,0,0,0,0,0,0,0]))),(720,.ints .u64 80 (FD53)),(672,.ints .u64 8 z3),(496,.ints .u8 (((itr (FD36w64l0) ((239 - p0.length % 128) % 128) (p0.length + 1,p0 ++ [128])).1) + 16) (itr (FD36w64l1 p0) 8 (((itr (FD36w64l0) ((239 - p0.length % 128) % 128) (p0.length + 1,p0 ++ [128])).2) ++ (List.replicate 16 0)))),(128,.ints .i64 12 [1,8,7,19,61,6,14,18,41,28,34,39])])
          1136 (⟨tt,⟨tt,⟨tt,trivial⟩⟩⟩) ?_
        refine Tri.cond (x:=(decide (((k6:Int):Int) < 80))) (by kernel_rfl) (fun h8 => ?_) (fun h8 => ?_)
        ·
         have h8':=of_decide_eq_true h8
         refine Tri.skip ?_
         change Tri _ _ _ _ _ _
         refine Tri.seq ?_
         refine Tri.block ?_
         refine sr [] none [21,20,19,16,15,13,12,9,8,7,6,5,1] [1040,880,720,672,496,128] ((((0:Int)≤4∧4 < ((8:Nat):Int))∧True)∧(((4 < 8)∧True)∧((((0:Int)≤5∧5 < ((8:Nat):Int))∧True)∧(((5 < 8)∧True)∧(TT∧(TT∧((((0:Int)≤4∧4 < ((8:Nat):Int))∧True)∧(((4 < 8)∧True)∧(TT∧((((0:Int)≤6∧6 < ((8:Nat):Int))∧True)∧(((6 < 8)∧True)∧(TT∧(TT∧(TT∧True))))))))))))))
           ([(21,.sc (.i .u64 (iOr .u64 (iAnd .u64 (z6.getD 4 0) (z6.getD 5 0)) (iAnd .u64 (iXor .u64 18446744073709551615 (z6.getD 4 0)) (z6.getD 6 0))))),(20,qi (k6:Int)),(19,qp 1040 0),(16,qp 880 0),(15,qi ((128 * k3:Nat):Int)),(13,qp 720 0),(12,qp 672 0),(9,.sc (.sl 496 0 (((itr (FD36w64l0) ((239 - p0.length % 128) % 128) (p0.length + 1,p0 ++ [128])).1) + 16) 1 none)),(8,qi 128),(7,qp 128 0),(6,.sc (.i .u64 18446744073709551615)),(5,qi 80),(1,qi 64)],[(1040,.ints .u64 8 z6),(880,.ints .u64 80 (itr (FD36w64l5) 64 (itr (FD36w64l4 p0 k3) 128 [0,0,0,0,0,0,0,0,0,0,0,0,0,0,0,0,0,0,0,0,0,0,0,0,0,0,0,0,0,0,0,0,0,0,0,0,0,0,0,0,0,0,0,0,0,0,0,0,0,0,0,0,0,0,0,0,0,0,0,0,0,0,0,0,0,0,0,0,0,0,0,0,0,0,0,0,0,0,0,0]))),(720,.ints .u64 80 (FD53)),(672,.ints .u64 8 z3),(496,.ints .u8 (((itr (FD36w64l0) ((239 - p0.length % 128) % 128) (p0.length + 1,p0 ++ [128])).1) + 16) (itr (FD36w64l1 p0) 8 (((itr (FD36w64l0) ((239 - p0.length % 128) % 128) (p0.length + 1,p0 ++ [128])).2) ++ (List.replicate 16 0)))),(128,.ints .i64 12 [1,8,7,19,61,6,14,18,41,28,34,39])])
           1360 (⟨⟨(by omega),trivial⟩,⟨⟨(by omega),trivial⟩,⟨⟨(by omega),trivial⟩,⟨⟨(by omega),trivial⟩,⟨tt,⟨tt,⟨⟨(by omega),trivial⟩,⟨⟨(by omega),trivial⟩,⟨tt,⟨⟨(by omega),trivial⟩,⟨⟨(by omega),trivial⟩,⟨tt,⟨tt,⟨tt,trivial⟩⟩⟩⟩⟩⟩⟩⟩⟩⟩⟩⟩⟩⟩) ?_
         refine sr [] (some [0,1,0,4,0,16,0,124,255,0,1023,0,2048,6144,0,16384,63488,131071,0,262144,786432,2097151,0,8388607,16777215]) [22,20,19,16,15,13,12,9,8,7,6,5,1] [1040,880,720,672,496,128] ((((0:Int)≤7∧7 < ((8:Nat):Int))∧True)∧(((7 < 8)∧True)∧((((0:Int)≤4∧4 < ((8:Nat):Int))∧True)∧(((4 < 8)∧True)∧((((0:Int)≤2∧2 < ((4:Nat):Int))∧True)∧(((6 + 3≤12)∧True)∧(TT∧(((True∧(turns 64 [14,18,41]))∧True)∧(TT∧(TT∧(TT∧(TT∧((((0:Int)≤(k6:Int)∧(k6:Int) < ((80:Nat):Int))∧True)∧(((k6 < 80)∧True)∧(TT∧(TT∧((((0:Int)≤0)∧True)∧(TT∧(TT∧((((0:Int)≤(k6:Int)∧(k6:Int) < ((80:Nat):Int))∧True)∧(((k6 < 80)∧True)∧(TT∧(TT∧(TT∧(TT∧True)))))))))))))))))))))))))
           ([(22,.sc (.i .u64 (iAnd .u64 (iAdd .u64 (iAdd .u64 (iAdd .u64 (iAdd .u64 (z6.getD 7 0) (FD54w64 (z6.getD 4 0) [14,18,41] false)) (iOr .u64 (iAnd .u64 (z6.getD 4 0) (z6.getD 5 0)) (iAnd .u64 (iXor .u64 18446744073709551615 (z6.getD 4 0)) (z6.getD 6 0)))) (iShr .u64 ((FD53).getD k6 0) 0)) ((itr (FD36w64l5) 64 (itr (FD36w64l4 p0 k3) 128 [0,0,0,0,0,0,0,0,0,0,0,0,0,0,0,0,0,0,0,0,0,0,0,0,0,0,0,0,0,0,0,0,0,0,0,0,0,0,0,0,0,0,0,0,0,0,0,0,0,0,0,0,0,0,0,0,0,0,0,0,0,0,0,0,0,0,0,0,0,0,0,0,0,0,0,0,0,0,0,0])).getD k6 0)) 18446744073709551615))),(20,qi (k6:Int)),(19,qp 1040 0),(16,qp 880 0),(15,qi ((128 * k3:Nat):Int)),(13,qp 720 0),(12,qp 672 0),(9,.sc (.sl 496 0 (((itr (FD36w64l0) ((239 - p0.length % 128) % 128) (p0.length + 1,p0 ++ [128])).1) + 16) 1 none)),(8,qi 128),(7,qp 128 0),(6,.sc (.i .u64 18446744073709551615)),(5,qi 80),(1,qi 64)],[(1040,.ints .u64 8 z6),(880,.ints .u64 80 (itr (FD36w64l5) 64 (itr (FD36w64l4 p0 k3) 128 [0,0,0,0,0,0,0,0,0,0,0,0,0,0,0,0,0,0,0,0,0,0,0,0,0,0,0,0,0,0,0,0,0,0,0,0,0,0,0,0,0,0,0,0,0,0,0,0,0,0,0,0,0,0,0,0,0,0,0,0,0,0,0,0,0,0,0,0,0,0,0,0,0,0,0,0,0,0,0,0]))),(720,.ints .u64 80 (FD53)),(672,.ints .u64 8 z3),(496,.ints .u8 (((itr (FD36w64l0) ((239 - p0.length % 128) % 128) (p0.length + 1,p0 ++ [128])).1) + 16) (itr (FD36w64l1 p0) 8 (((itr (FD36w64l0) ((239 - p0.length % 128) % 128) (p0.length + 1,p0 ++ [128])).2) ++ (List.replicate 16 0)))),(128,.ints .i64 12 [1,8,7,19,61,6,14,18,41,28,34,39])])
           1760 (⟨⟨(by omega),trivial⟩,⟨⟨(by omega),trivial⟩,⟨⟨(by omega),trivial⟩,⟨⟨(by omega),trivial⟩,⟨⟨(by omega),trivial⟩,⟨⟨(by omega),trivial⟩,⟨tt,⟨⟨⟨trivial,(by unfold turns; decide)⟩,trivial⟩,⟨tt,⟨tt,⟨tt,⟨tt,⟨⟨(by omega),trivial⟩,⟨⟨(by omega),trivial⟩,⟨tt,⟨tt,⟨⟨(by omega),trivial⟩,⟨tt,⟨tt,⟨⟨(by omega),trivial⟩,⟨⟨(by omega),trivial⟩,⟨tt,⟨tt,⟨tt,⟨tt,trivial⟩⟩⟩⟩⟩⟩⟩⟩⟩⟩⟩⟩⟩⟩⟩⟩⟩⟩⟩⟩⟩⟩⟩⟩⟩) ?_
         refine sr [] (some [0,1,0,4,0,31,0,64,0,256,960,0,2048,0,8192,30720,65472,0,131072,0,524288,1966080,4194240,8388607,16777215]) [23,22,20,19,16,15,13,12,9,8,7,6,5,1] [1040,880,720,672,496,128] ((((0:Int)≤0∧0 < ((8:Nat):Int))∧True)∧(((0 < 8)∧True)∧((((0:Int)≤3∧3 < ((4:Nat):Int))∧True)∧(((9 + 3≤12)∧True)∧(TT∧(((True∧(turns 64 [28,34,39]))∧True)∧((((0:Int)≤0∧0 < ((8:Nat):Int))∧True)∧(((0 < 8)∧True)∧((((0:Int)≤1∧1 < ((8:Nat):Int))∧True)∧(((1 < 8)∧True)∧(TT∧((((0:Int)≤1∧1 < ((8:Nat):Int))∧True)∧(((1 < 8)∧True)∧((((0:Int)≤2∧2 < ((8:Nat):Int))∧True)∧(((2 < 8)∧True)∧(TT∧(TT∧((((0:Int)≤0∧0 < ((8:Nat):Int))∧True)∧(((0 < 8)∧True)∧((((0:Int)≤2∧2 < ((8:Nat):Int))∧True)∧(((2 < 8)∧True)∧(TT∧(TT∧(TT∧(TT∧True)))))))))))))))))))))))))
           ([(23,.sc (.i .u64 (iAdd .u64 (FD54w64 (z6.getD 0 0) [28,34,39] false) (iOr .u64 (iOr .u64 (iAnd .u64 (z6.getD 0 0) (z6.getD 1 0)) (iAnd .u64 (z6.getD 1 0) (z6.getD 2 0))) (iAnd .u64 (z6.getD 0 0) (z6.getD 2 0)))))),(22,.sc (.i .u64 (iAnd .u64 (iAdd .u64 (iAdd .u64 (iAdd .u64 (iAdd .u64 (z6.getD 7 0) (FD54w64 (z6.getD 4 0) [14,18,41] false)) (iOr .u64 (iAnd .u64 (z6.getD 4 0) (z6.getD 5 0)) (iAnd .u64 (iXor .u64 18446744073709551615 (z6.getD 4 0)) (z6.getD 6 0)))) (iShr .u64 ((FD53).getD k6 0) 0)) ((itr (FD36w64l5) 64 (itr (FD36w64l4 p0 k3) 128 [0,0,0,0,0,0,0,0,0,0,0,0,0,0,0,0,0,0,0,0,0,0,0,0,0,0,0,0,0,0,0,0,0,0,0,0,0,0,0,0,0,0,0,0,0,0,0,0,0,0,0,0,0,0,0,0,0,0,0,0,0,0,0,0,0,0,0,0,0,0,0,0,0,0,0,0,0,0,0,0])).getD k6 0)) 18446744073709551615))),(20,qi (k6:Int)),(19,qp 1040 0),(16,qp 880 0),(15,qi ((128 * k3:Nat):Int)),(13,qp 720 0),(12,qp 672 0),(9,.sc (.sl 496 0 (((itr (FD36w64l0) ((239 - p0.length % 128) % 128) (p0.length + 1,p0 ++ [128])).1) + 16) 1 none)),(8,qi 128),(7,qp 128 0),(6,.sc (.i .u64 18446744073709551615)),(5,qi 80),(1,qi 64)],[(1040,.ints .u64 8 z6),(880,.ints .u64 80 (itr (FD36w64l5) 64 (itr (FD36w64l4 p0 k3) 128 [0,0,0,0,0,0,0,0,0,0,0,0,0,0,0,0,0,0,0,0,0,0,0,0,0,0,0,0,0,0,0,0,0,0,0,0,0,0,0,0,0,0,0,0,0,0,0,0,0,0,0,0,0,0,0,0,0,0,0,0,0,0,0,0,0,0,0,0,0,0,0,0,0,0,0,0,0,0,0,0]))),(720,.ints .u64 80 (FD53)),(672,.ints .u64 8 z3),(496,.ints .u8 (((itr (FD36w64l0) ((239 - p0.length % 128) % 128) (p0.length + 1,p0 ++ [128])).1) + 16) (itr (FD36w64l1 p0) 8 (((itr (FD36w64l0) ((239 - p0.length % 128) % 128) (p0.length + 1,p0 ++ [128])).2) ++ (List.replicate 16 0)))),(128,.ints .i64 12 [1,8,7,19,61,6,14,18,41,28,34,39])])
           2160 (⟨⟨(by omega),trivial⟩,⟨⟨(by omega),trivial⟩,⟨⟨(by omega),trivial⟩,⟨⟨(by omega),trivial⟩,⟨tt,⟨⟨⟨trivial,(by unfold turns; decide)⟩,trivial⟩,⟨⟨(by omega),trivial⟩,⟨⟨(by omega),trivial⟩,⟨⟨(by omega),trivial⟩,⟨⟨(by omega),trivial⟩,⟨tt,⟨⟨(by omega),trivial⟩,⟨⟨(by omega),trivial⟩,⟨⟨(by omega),trivial⟩,⟨⟨(by omega),trivial⟩,⟨tt,⟨tt,⟨⟨(by omega),trivial⟩,⟨⟨(by omega),trivial⟩,⟨⟨(by omega),trivial⟩,⟨⟨(by omega),trivial⟩,⟨tt,⟨tt,⟨tt,⟨tt,trivial⟩⟩⟩⟩⟩⟩⟩⟩⟩⟩⟩⟩⟩⟩⟩⟩⟩⟩⟩⟩⟩⟩⟩⟩⟩) ?_
         refine rr [] none [20,19,16,15,13,12,9,8,7,6,5,1] [1040,880,720,672,496,128] (TT∧(TT∧(TT∧(TT∧(TT∧((((0:Int)≤0∧0 < ((8:Nat):Int))∧True)∧(((0 < 8)∧True)∧((((0:Int)≤1∧1 < ((8:Nat):Int))∧True)∧(((1 < 8)∧True)∧((((0:Int)≤2∧2 < ((8:Nat):Int))∧True)∧(((2 < 8)∧True)∧((((0:Int)≤3∧3 < ((8:Nat):Int))∧True)∧(((3 < 8)∧True)∧(TT∧(TT∧(TT∧(TT∧((((0:Int)≤4∧4 < ((8:Nat):Int))∧True)∧(((4 < 8)∧True)∧((((0:Int)≤5∧5 < ((8:Nat):Int))∧True)∧(((5 < 8)∧True)∧((((0:Int)≤6∧6 < ((8:Nat):Int))∧True)∧(((6 < 8)∧True)∧(((((0 < 8)∧(1=1))∧(((1 < 8)∧(1=1))∧(((2 < 8)∧(1=1))∧(((3 < 8)∧(1=1))∧(((4 < 8)∧(1=1))∧(((5 < 8)∧(1=1))∧(((6 < 8)∧(1=1))∧(((7 < 8)∧(1=1))∧True))))))))∧True)∧(((True∧(8=8))∧True)∧True)))))))))))))))))))))))))
           ([(20,qi (k6:Int)),(19,qp 1040 0),(16,qp 880 0),(15,qi ((128 * k3:Nat):Int)),(13,qp 720 0),(12,qp 672 0),(9,.sc (.sl 496 0 (((itr (FD36w64l0) ((239 - p0.length % 128) % 128) (p0.length + 1,p0 ++ [128])).1) + 16) 1 none)),(8,qi 128),(7,qp 128 0),(6,.sc (.i .u64 18446744073709551615)),(5,qi 80),(1,qi 64)],[(1040,.ints .u64 8 ([(iAnd .u64 (iAdd .u64 (iAnd .u64 (iAdd .u64 (iAdd .u64 (iAdd .u64 (iAdd .u64 (z6.getD 7 0) (FD54w64 (z6.getD 4 0) [14,18,41] false)) (iOr .u64 (iAnd .u64 (z6.getD 4 0) (z6.getD 5 0)) (iAnd .u64 (iXor .u64 18446744073709551615 (z6.getD 4 0)) (z6.getD 6 0)))) (iShr .u64 ((FD53).getD k6 0) 0)) ((itr (FD36w64l5) 64 (itr (FD36w64l4 p0 k3) 128 [0,0,0,0,0,0,0,0,0,0,0,0,0,0,0,0,0,0,0,0,0,0,0,0,0,0,0,0,0,0,0,0,0,0,0,0,0,0,0,0,0,0,0,0,0,0,0,0,0,0,0,0,0,0,0,0,0,0,0,0,0,0,0,0,0,0,0,0,0,0,0,0,0,0,0,0,0,0,0,0])).getD k6 0)) 18446744073709551615) (iAdd .u64 (FD54w64 (z6.getD 0 0) [28,34,39] false) (iOr .u64 (iOr .u64 (iAnd .u64 (z6.getD 0 0) (z6.getD 1 0)) (iAnd .u64 (z6.getD 1 0) (z6.getD 2 0))) (iAnd .u64 (z6.getD 0 0) (z6.getD 2 0))))) 18446744073709551615),z6.getD 0 0,z6.getD 1 0,z6.getD 2 0,(iAnd .u64 (iAdd .u64 (z6.getD 3 0) (iAnd .u64 (iAdd .u64 (iAdd .u64 (iAdd .u64 (iAdd .u64 (z6.getD 7 0) (FD54w64 (z6.getD 4 0) [14,18,41] false)) (iOr .u64 (iAnd .u64 (z6.getD 4 0) (z6.getD 5 0)) (iAnd .u64 (iXor .u64 18446744073709551615 (z6.getD 4 0)) (z6.getD 6 0)))) (iShr .u64 ((FD53).getD k6 0) 0)) ((itr (FD36w64l5) 64 (itr (FD36w64l4 p0 k3) 128 [0,0,0,0,0,0,0,0,0,0,0,0,0,0,0,0,0,0,0,0,0,0,0,0,0,0,0,0,0,0,0,0,0,0,0,0,0,0,0,0,0,0,0,0,0,0,0,0,0,0,0,0,0,0,0,0,0,0,0,0,0,0,0,0,0,0,0,0,0,0,0,0,0,0,0,0,0,0,0,0])).getD k6 0)) 18446744073709551615)) 18446744073709551615),z6.getD 4 0,z6.getD 5 0,z6.getD 6 0])),(880,.ints .u64 80 (itr (FD36w64l5) 64 (itr (FD36w64l4 p0 k3) 128 [0,0,0,0,0,0,0,0,0,0,0,0,0,0,0,0,0,0,0,0,0,0,0,0,0,0,0,0,0,0,0,0,0,0,0,0,0,0,0,0,0,0,0,0,0,0,0,0,0,0,0,0,0,0,0,0,0,0,0,0,0,0,0,0,0,0,0,0,0,0,0,0,0,0,0,0,0,0,0,0]))),(720,.ints .u64 80 (FD53)),(672,.ints .u64 8 z3),(496,.ints .u8 (((itr (FD36w64l0) ((239 - p0.length % 128) % 128) (p0.length + 1,p0 ++ [128])).1) + 16) (itr (FD36w64l1 p0) 8 (((itr (FD36w64l0) ((239 - p0.length % 128) % 128) (p0.length + 1,p0 ++ [128])).2) ++ (List.replicate 16 0)))),(128,.ints .i64 12 [1,8,7,19,61,6,14,18,41,28,34,39])])
           2560 (⟨tt,⟨tt,⟨tt,⟨tt,⟨tt,⟨⟨(by omega),trivial⟩,⟨⟨(by omega),trivial⟩,⟨⟨(by omega),trivial⟩,⟨⟨(by omega),trivial⟩,⟨⟨(by omega),trivial⟩,⟨⟨(by omega),trivial⟩,⟨⟨(by omega),trivial⟩,⟨⟨(by omega),trivial⟩,⟨tt,⟨tt,⟨tt,⟨tt,⟨⟨(by omega),trivial⟩,⟨⟨(by omega),trivial⟩,⟨⟨(by omega),trivial⟩,⟨⟨(by omega),trivial⟩,⟨⟨(by omega),trivial⟩,⟨⟨(by omega),trivial⟩,⟨⟨⟨⟨(by omega),(rfl)⟩,⟨⟨(by omega),(rfl)⟩,⟨⟨(by omega),(rfl)⟩,⟨⟨(by omega),(rfl)⟩,⟨⟨(by omega),(rfl)⟩,⟨⟨(by omega),(rfl)⟩,⟨⟨(by omega),(rfl)⟩,⟨⟨(by omega),(rfl)⟩,trivial⟩⟩⟩⟩⟩⟩⟩⟩,trivial⟩,⟨⟨⟨trivial,(rfl)⟩,trivial⟩,trivial⟩⟩⟩⟩⟩⟩⟩⟩⟩⟩⟩⟩⟩⟩⟩⟩⟩⟩⟩⟩⟩⟩⟩⟩⟩) ?_
         change Tri _ _ _ _ _ _
         refine rr [(167,.i .i64 ((k6 + 1:Nat):Int))] none [20,19,16,15,13,12,9,8,7,6,5,1] [1040,880,720,672,496,128] (TT∧((True∧((iAdd .i64 (k6:Int) 1)=((k6 + 1:Nat):Int)))∧(TT∧True)))
           ([(20,qi ((k6 + 1:Nat):Int)),(19,qp 1040 0),(16,qp 880 0),(15,qi ((128 * k3:Nat):Int)),(13,qp 720 0),(12,qp 672 0),(9,.sc (.sl 496 0 (((itr (FD36w64l0) ((239 - p0.length % 128) % 128) (p0.length + 1,p0 ++ [128])).1) + 16) 1 none)),(8,qi 128),(7,qp 128 0),(6,.sc (.i .u64 18446744073709551615)),(5,qi 80),(1,qi 64)],[(1040,.ints .u64 8 ([(iAnd .u64 (iAdd .u64 (iAnd .u64 (iAdd .u64 (iAdd .u64 (iAdd .u64 (iAdd .u64 (z6.getD 7 0) (FD54w64 (z6.getD 4 0) [14,18,41] false)) (iOr .u64 (iAnd .u64 (z6.getD 4 0) (z6.getD 5 0)) (iAnd .u64 (iXor .u64 18446744073709551615 (z6.getD 4 0)) (z6.getD 6 0)))) (iShr .u64 ((FD53).getD k6 0) 0)) ((itr (FD36w64l5) 64 (itr (FD36w64l4 p0 k3) 128 [0,0,0,0,0,0,0,0,0,0,0,0,0,0,0,0,0,0,0,0,0,0,0,0,0,0,0,0,0,0,0,0,0,0,0,0,0,0,0,0,0,0,0,0,0,0,0,0,0,0,0,0,0,0,0,0,0,0,0,0,0,0,0,0,0,0,0,0,0,0,0,0,0,0,0,0,0,0,0,0])).getD k6 0)) 18446744073709551615) (iAdd .u64 (FD54w64 (z6.getD 0 0) [28,34,39] false) (iOr .u64 (iOr .u64 (iAnd .u64 (z6.getD 0 0) (z6.getD 1 0)) (iAnd .u64 (z6.getD 1 0) (z6.getD 2 0))) (iAnd .u64 (z6.getD 0 0) (z6.getD 2 0))))) 18446744073709551615),z6.getD 0 0,z6.getD 1 0,z6.getD 2 0,(iAnd .u64 (iAdd .u64 (z6.getD 3 0) (iAnd .u64 (iAdd .u64 (iAdd .u64 (iAdd .u64 (iAdd .u64 (z6.getD 7 0) (FD54w64 (z6.getD 4 0) [14,18,41] false)) (iOr .u64 (iAnd .u64 (z6.getD 4 0) (z6.getD 5 0)) (iAnd .u64 (iXor .u64 18446744073709551615 (z6.getD 4 0)) (z6.getD 6 0)))) (iShr .u64 ((FD53).getD k6 0) 0)) ((itr (FD36w64l5) 64 (itr (FD36w64l4 p0 k3) 128 [0,0,0,0,0,0,0,0,0,0,0,0,0,0,0,0,0,0,0,0,0,0,0,0,0,0,0,0,0,0,0,0,0,0,0,0,0,0,0,0,0,0,0,0,0,0,0,0,0,0,0,0,0,0,0,0,0,0,0,0,0,0,0,0,0,0,0,0,0,0,0,0,0,0,0,0,0,0,0,0])).getD k6 0)) 18446744073709551615)) 18446744073709551615),z6.getD 4 0,z6.getD 5 0,z6.getD 6 0])),(880,.ints .u64 80 (itr (FD36w64l5) 64 (itr (FD36w64l4 p0 k3) 128 [0,0,0,0,0,0,0,0,0,0,0,0,0,0,0,0,0,0,0,0,0,0,0,0,0,0,0,0,0,0,0,0,0,0,0,0,0,0,0,0,0,0,0,0,0,0,0,0,0,0,0,0,0,0,0,0,0,0,0,0,0,0,0,0,0,0,0,0,0,0,0,0,0,0,0,0,0,0,0,0]))),(720,.ints .u64 80 (FD53)),(672,.ints .u64 8 z3),(496,.ints .u8 (((itr (FD36w64l0) ((239 - p0.length % 128) % 128) (p0.length + 1,p0 ++ [128])).1) + 16) (itr (FD36w64l1 p0) 8 (((itr (FD36w64l0) ((239 - p0.length % 128) % 128) (p0.length + 1,p0 ++ [128])).2) ++ (List.replicate 16 0)))),(128,.ints .i64 12 [1,8,7,19,61,6,14,18,41,28,34,39])])
           2608 (⟨tt,⟨⟨trivial,(iAdd_nat (a:=k6) (b:=1) (by omega))⟩,⟨tt,trivial⟩⟩⟩) ?_
         repeat (refine blkP_normal ?_)
         refine countP_normal (by omega) trivial ?_
         exact Sub.ren (ns:=[(1040,1040),(880,880),(720,720),(672,672),(496,496),(128,128)]) (kf:=[20,19,16,15,13,12,9,8,7,6,5,1]) (by kernel_rfl) (by kernel_rfl)
        ·
         have h8':=of_decide_eq_false h8
         refine Tri.exit ?_
         have hend6:k6=80:=by (have:=of_decide_eq_false h8; omega)
         subst hend6; subst hz6
         change Tri _ _ _ _ _ _
         refine sr [] none [24,19,15,13,12,9,8,7,6,5,1] [1040,720,672,496,128] (TT∧True)
           ([(24,qi 0),(19,qp 1040 0),(15,qi ((128 * k3:Nat):Int)),(13,qp 720 0),(12,qp 672 0),(9,.sc (.sl 496 0 (((itr (FD36w64l0) ((239 - p0.length % 128) % 128) (p0.length + 1,p0 ++ [128])).1) + 16) 1 none)),(8,qi 128),(7,qp 128 0),(6,.sc (.i .u64 18446744073709551615)),(5,qi 80),(1,qi 64)],[(1040,.ints .u64 8 (itr (FD36w64l6 p0 k3) 80 z3)),(720,.ints .u64 80 (FD53)),(672,.ints .u64 8 z3),(496,.ints .u8 (((itr (FD36w64l0) ((239 - p0.length % 128) % 128) (p0.length + 1,p0 ++ [128])).1) + 16) (itr (FD36w64l1 p0) 8 (((itr (FD36w64l0) ((239 - p0.length % 128) % 128) (p0.length + 1,p0 ++ [128])).2) ++ (List.replicate 16 0)))),(128,.ints .i64 12 [1,8,7,19,61,6,14,18,41,28,34,39])])
           1152 (⟨tt,trivial⟩) ?_
         refine Tri.block ?_
         refine Tri.count 1152 8 (FD36w64l7 p0 k3 z3) z3 (fun k7 z7 => True) (fun k7 z7 => ([(24,qi (k7:Int)),(19,qp 1040 0),(15,qi ((128 * k3:Nat):Int)),(13,qp 720 0),(12,qp 672 0),(9,.sc (.sl 496 0 (((itr (FD36w64l0) ((239 - p0.length % 128) % 128) (p0.length + 1,p0 ++ [128])).1) + 16) 1 none)),(8,qi 128),(7,qp 128 0),(6,.sc (.i .u64 18446744073709551615)),(5,qi 80),(1,qi 64)],[(1040,.ints .u64 8 (itr (FD36w64l6 p0 k3) 80 z3)),(720,.ints .u64 80 (FD53)),(672,.ints .u64 8 z7),(496,.ints .u8 (((itr (FD36w64l0) ((239 - p0.length % 128) % 128) (p0.length + 1,p0 ++ [128])).1) + 16) (itr (FD36w64l1 p0) 8 (((itr (FD36w64l0) ((239 - p0.length % 128) % 128) (p0.length + 1,p0 ++ [128])).2) ++ (List.replicate 16 0)))),(128,.ints .i64 12 [1,8,7,19,61,6,14,18,41,28,34,39])])) trivial (Sub.of_eq (by kernel_rfl)) ?_
         intro k7 z7 hk7 hz7 hJ7
         refine Tri.seq ?_
         refine sr [] none [254,24,19,15,13,12,9,8,7,6,5,1] [1040,720,672,496,128] (TT∧(TT∧True))
           ([(254,.sc (.b (decide (((k7:Int):Int) < 8)))),(24,qi (k7:Int)),(19,qp 1040 0),(15,qi ((128 * k3:Nat):Int)),(13,qp 720 0),(12,qp 672 0),(9,.sc (.sl 496 0 (((itr (FD36w64l0) ((239 - p0.length % 128) % 128) (p0.length + 1,p0 ++ [128])).1) + 16) 1 none)),(8,qi 128),(7,qp 128 0),(6,.sc (.i .u64 18446744073709551615)),(5,qi 80),(1,qi 64)],[(1040,.ints .u64 8 (itr (FD36w64l6 p0 k3) 80 z3)),(720,.ints .u64 80 (FD53)),(672,.ints .u64 8 z7),(496,.ints .u8 (((itr (FD36w64l0) ((239 - p0.length % 128) % 128) (p0.length + 1,p0 ++ [128])).1) + 16) (itr (FD36w64l1 p0) 8 (((itr (FD36w64l0) ((239 - p0.length % 128) % 128) (p0.length + 1,p0 ++ [128])).2) ++ (List.replicate 16 0)))),(128,.ints .i64 12 [1,8,7,19,61,6,14,18,41,28,34,39])])
           1184 (⟨tt,⟨tt,trivial⟩⟩) ?_
         refine Tri.cond (x:=(decide (((k7:Int):Int) < 8))) (by kernel_rfl) (fun h9 => ?_) (fun h9 => ?_)
         ·
          have h9':=of_decide_eq_true h9
          refine Tri.skip ?_
          change Tri _ _ _ _ _ _
          refine Tri.seq ?_
          refine Tri.block ?_
          refine rr [] (some [0,0,2,6,0,16,48,126,0,510,1023,2047]) [24,19,15,13,12,9,8,7,6,5,1] [672,1040,720,496,128] (TT∧(TT∧((((0:Int)≤(k7:Int)∧(k7:Int) < ((8:Nat):Int))∧True)∧(((k7 < 8)∧True)∧(TT∧((((0:Int)≤(k7:Int)∧(k7:Int) < ((8:Nat):Int))∧True)∧(((k7 < 8)∧True)∧(TT∧(TT∧(TT∧((((0:Int)≤(k7:Int)∧(k7:Int) < ((8:Nat):Int))∧True)∧((((k7 < 8)∧(1=1))∧True)∧True))))))))))))
            ([(24,qi (k7:Int)),(19,qp 1040 0),(15,qi ((128 * k3:Nat):Int)),(13,qp 720 0),(12,qp 672 0),(9,.sc (.sl 496 0 (((itr (FD36w64l0) ((239 - p0.length % 128) % 128) (p0.length + 1,p0 ++ [128])).1) + 16) 1 none)),(8,qi 128),(7,qp 128 0),(6,.sc (.i .u64 18446744073709551615)),(5,qi 80),(1,qi 64)],[(672,.ints .u64 8 (z7.set k7 (iAnd .u64 (iAdd .u64 (z7.getD k7 0) ((itr (FD36w64l6 p0 k3) 80 z3).getD k7 0)) 18446744073709551615))),(1040,.ints .u64 8 (itr (FD36w64l6 p0 k3) 80 z3)),(720,.ints .u64 80 (FD53)),(496,.ints .u8 (((itr (FD36w64l0) ((239 - p0.length % 128) % 128) (p0.length + 1,p0 ++ [128])).1) + 16) (itr (FD36w64l1 p0) 8 (((itr (FD36w64l0) ((239 - p0.length % 128) % 128) (p0.length + 1,p0 ++ [128])).2) ++ (List.replicate 16 0)))),(128,.ints .i64 12 [1,8,7,19,61,6,14,18,41,28,34,39])])
            1376 (⟨tt,⟨tt,⟨⟨(by omega),trivial⟩,⟨⟨(by omega),trivial⟩,⟨tt,⟨⟨(by omega),trivial⟩,⟨⟨(by omega),trivial⟩,⟨tt,⟨tt,⟨tt,⟨⟨(by omega),trivial⟩,⟨⟨⟨(by omega),(rfl)⟩,trivial⟩,trivial⟩⟩⟩⟩⟩⟩⟩⟩⟩⟩⟩⟩) ?_
          change Tri _ _ _ _ _ _
          refine rr [(256,.i .i64 ((k7 + 1:Nat):Int))] none [24,19,15,13,12,9,8,7,6,5,1] [672,1040,720,496,128] (TT∧((True∧((iAdd .i64 (k7:Int) 1)=((k7 + 1:Nat):Int)))∧(TT∧True)))
            ([(24,qi ((k7 + 1:Nat):Int)),(19,qp 1040 0),(15,qi ((128 * k3:Nat):Int)),(13,qp 720 0),(12,qp 672 0),(9,.sc (.sl 496 0 (((itr (FD36w64l0) ((239 - p0.length % 128) % 128) (p0.length + 1,p0 ++ [128])).1) + 16) 1 none)),(8,qi 128),(7,qp 128 0),(6,.sc (.i .u64 18446744073709551615)),(5,qi 80),(1,qi 64)],[(672,.ints .u64 8 (z7.set k7 (iAnd .u64 (iAdd .u64 (z7.getD k7 0) ((itr (FD36w64l6 p0 k3) 80 z3).getD k7 0)) 18446744073709551615))),(1040,.ints .u64 8 (itr (FD36w64l6 p0 k3) 80 z3)),(720,.ints .u64 80 (FD53)),(496,.ints .u8 (((itr (FD36w64l0) ((239 - p0.length % 128) % 128) (p0.length + 1,p0 ++ [128])).1) + 16) (itr (FD36w64l1 p0) 8 (((itr (FD36w64l0) ((239 - p0.length % 128) % 128) (p0.length + 1,p0 ++ [128])).2) ++ (List.replicate 16 0)))),(128,.ints .i64 12 [1,8,7,19,61,6,14,18,41,28,34,39])])
            1424 (⟨tt,⟨⟨trivial,(iAdd_nat (a:=k7) (b:=1) (by omega))⟩,⟨tt,trivial⟩⟩⟩) ?_
          repeat (refine blkP_normal ?_)
          refine countP_normal (by omega) trivial ?_
          exact Sub.ren (ns:=[(1040,1040),(720,720),(672,672),(496,496),(128,128)]) (kf:=[24,19,15,13,12,9,8,7,6,5,1]) (by kernel_rfl) (by kernel_rfl)
         ·
          have h9':=of_decide_eq_false h9
          refine Tri.exit ?_
          have hend7:k7=8:=by (have:=of_decide_eq_false h9; omega)
          subst hend7; subst hz7
          change Tri _ _ _ _ _ _
          refine rr [(100,.i .i64 (((128 * k3) + 128:Nat):Int))] none [15,13,12,9,8,7,6,5,1] [720,672,496,128] (TT∧(TT∧((True∧((iAdd .i64 ((128 * k3:Nat):Int) 128)=(((128 * k3) + 128:Nat):Int)))∧(TT∧True))))
            ([(15,qi (((128 * k3) + 128:Nat):Int)),(13,qp 720 0),(12,qp 672 0),(9,.sc (.sl 496 0 (((itr (FD36w64l0) ((239 - p0.length % 128) % 128) (p0.length + 1,p0 ++ [128])).1) + 16) 1 none)),(8,qi 128),(7,qp 128 0),(6,.sc (.i .u64 18446744073709551615)),(5,qi 80),(1,qi 64)],[(720,.ints .u64 80 (FD53)),(672,.ints .u64 8 (itr (FD36w64l7 p0 k3 z3) 8 z3)),(496,.ints .u8 (((itr (FD36w64l0) ((239 - p0.length % 128) % 128) (p0.length + 1,p0 ++ [128])).1) + 16) (itr (FD36w64l1 p0) 8 (((itr (FD36w64l0) ((239 - p0.length % 128) % 128) (p0.length + 1,p0 ++ [128])).2) ++ (List.replicate 16 0)))),(128,.ints .i64 12 [1,8,7,19,61,6,14,18,41,28,34,39])])
            1248 (⟨tt,⟨tt,⟨⟨trivial,(iAdd_nat (a:=128 * k3) (b:=128) (by omega))⟩,⟨tt,trivial⟩⟩⟩⟩) ?_
          repeat (refine blkP_normal ?_)
          refine countP_normal (by omega) trivial ?_
          exact Sub.ren (ns:=[(720,720),(672,672),(496,496),(128,128)]) (kf:=[15,13,12,9,8,7,6,5,1]) (by kernel_rfl) (by kernel_rfl)
     ·
      have h5':=of_decide_eq_false h5
      refine Tri.exit ?_
      have hend3:k3=((((itr (FD36w64l0) ((239 - p0.length % 128) % 128) (p0.length + 1,p0 ++ [128])).1) + 16) / 128):=by (have:=of_decide_eq_false h5; omega)
      subst hend3; subst hz3
      change Tri _ _ _ _ _ _
      refine sr [] none [25,12,1] [672] (TT∧True)
        ([(25,.sc (.nils)),(12,qp 672 0),(1,qi 64)],[(672,.ints .u64 8 (itr (FD36w64l3 p0) ((((itr (FD36w64l0) ((239 - p0.length % 128) % 128) (p0.length + 1,p0 ++ [128])).1) + 16) / 128) (itr (FD36w64l2) 8 [7640891576956012808,13503953896175478587,4354685564936845355,11912009170470909681,5840696475078001361,11170449401992604703,2270897969802886507,6620516959819538809])))])
        896 (⟨tt,trivial⟩) ?_
      refine Tri.seq ?_
      refine sr [] none [26,25,12,1] [672] (TT∧True)
        ([(26,qi 0),(25,.sc (.nils)),(12,qp 672 0),(1,qi 64)],[(672,.ints .u64 8 (itr (FD36w64l3 p0) ((((itr (FD36w64l0) ((239 - p0.length % 128) % 128) (p0.length + 1,p0 ++ [128])).1) + 16) / 128) (itr (FD36w64l2) 8 [7640891576956012808,13503953896175478587,4354685564936845355,11912009170470909681,5840696475078001361,11170449401992604703,2270897969802886507,6620516959819538809])))])
        912 (⟨tt,trivial⟩) ?_
      refine Tri.block ?_
      refine Tri.sub (Sub.openNil (U:=912) (U':=928) 25 912 1 .u8 none (.inl rfl) (by decide) (by decide) (by kernel_rfl) (by kernel_rfl)) ?_
      refine Tri.count 928 64 (FD36w64l8 p0) (0,[]) (fun k8 z8 => z8.1=1 * k8) (fun k8 z8 => ([(25,.sc (.sl 912 0 z8.1 1 none)),(26,qi (k8:Int)),(12,qp 672 0),(1,qi 64)],[(912,.ints .u8 z8.1 z8.2),(672,.ints .u64 8 (itr (FD36w64l3 p0) ((((itr (FD36w64l0) ((239 - p0.length % 128) % 128) (p0.length + 1,p0 ++ [128])).1) + 16) / 128) (itr (FD36w64l2) 8 [7640891576956012808,13503953896175478587,4354685564936845355,11912009170470909681,5840696475078001361,11170449401992604703,2270897969802886507,6620516959819538809])))])) rfl (Sub.of_eq (by kernel_rfl)) ?_
      intro k8 z8 hk8 hz8 hJ8
      refine Tri.seq ?_
      refine sr [] none [270,25,26,12,1] [912,672] (TT∧(TT∧(TT∧True)))
        ([(270,.sc (.b (decide (((k8:Int):Int) < 64)))),(25,.sc (.sl 912 0 z8.1 1 none)),(26,qi (k8:Int)),(12,qp 672 0),(1,qi 64)],[(912,.ints .u8 z8.1 z8.2),(672,.ints .u64 8 (itr (FD36w64l3 p0) ((((itr (FD36w64l0) ((239 - p0.length % 128) % 128) (p0.length + 1,p0 ++ [128])).1) + 16) / 128) (itr (FD36w64l2) 8 [7640891576956012808,13503953896175478587,4354685564936845355,11912009170470909681,5840696475078001361,11170449401992604703,2270897969802886507,6620516959819538809])))])
        976 (⟨tt,⟨tt,⟨tt,trivial⟩⟩⟩) ?_
      refine Tri.cond (x:=(decide (((k8:Int):Int) < 64))) (by kernel_rfl) (fun h10 => ?_) (fun h10 => ?_)
      ·
       have h10':=of_decide_eq_true h10
       refine Tri.skip ?_
       change Tri _ _ _ _ _ _
       refine Tri.seq ?_
       refine Tri.block ?_
       refine rr [(275,.i .i64 ((8 * k8:Nat):Int)),(277,.i .i64 (((8 * k8) / 64:Nat):Int)),(283,.i .i64 ((8 * k8:Nat):Int)),(285,.i .i64 (((8 * k8) % 64:Nat):Int)),(286,.i .i64 ((56 - ((8 * k8) % 64):Nat):Int))] (some [0,0,2,0,14,30,62,0,128,0,512,0,3584,8064,16382,32766,65534,131071,262143]) [25,26,12,1] [1248,672] (TT∧(TT∧((True∧((iMul .i64 8 (k8:Int))=((8 * k8:Nat):Int)))∧(TT∧(((64 ≠ (0:Int))∧((iQuo .i64 ((8 * k8:Nat):Int) 64)=(((8 * k8) / 64:Nat):Int)))∧((((0:Int)≤(((8 * k8) / 64:Nat):Int)∧(((8 * k8) / 64:Nat):Int) < ((8:Nat):Int))∧True)∧((((8 * k8) / 64 < 8)∧True)∧(TT∧(TT∧(TT∧((True∧((iMul .i64 8 (k8:Int))=((8 * k8:Nat):Int)))∧(TT∧(((64 ≠ (0:Int))∧((iRem ((8 * k8:Nat):Int) 64)=(((8 * k8) % 64:Nat):Int)))∧((True∧((iSub .i64 56 (((8 * k8) % 64:Nat):Int))=((56 - ((8 * k8) % 64):Nat):Int)))∧((((0:Int)≤((56 - ((8 * k8) % 64):Nat):Int))∧True)∧(TT∧((((((0 < 1)∧(1=1))∧True)∧((1 * 1≤16777216)∧(1=1)))∧True)∧((((((True∧(1=1))∧((0 < 1)∧(((z8.1 + 1) * 1≤140737488355328)∧(z8.1 + 1≤140737488355328))))∧(1=1 * 1))∧((1=1)∧(0 + z8.1 * 1=z8.1)))∧True)∧(TT∧True)))))))))))))))))))
         ([(25,.sc (.sl 1248 0 (z8.1 + 1) 1 none)),(26,qi (k8:Int)),(12,qp 672 0),(1,qi 64)],[(1248,.ints .u8 (z8.1 + 1) (z8.2 ++ ([(IntKind.wrap .u8 (iShr .u64 ((itr (FD36w64l3 p0) ((((itr (FD36w64l0) ((239 - p0.length % 128) % 128) (p0.length + 1,p0 ++ [128])).1) + 16) / 128) (itr (FD36w64l2) 8 [7640891576956012808,13503953896175478587,4354685564936845355,11912009170470909681,5840696475078001361,11170449401992604703,2270897969802886507,6620516959819538809])).getD ((8 * k8) / 64) 0) ((56 - ((8 * k8) % 64):Nat):Int)))]))),(672,.ints .u64 8 (itr (FD36w64l3 p0) ((((itr (FD36w64l0) ((239 - p0.length % 128) % 128) (p0.length + 1,p0 ++ [128])).1) + 16) / 128) (itr (FD36w64l2) 8 [7640891576956012808,13503953896175478587,4354685564936845355,11912009170470909681,5840696475078001361,11170449401992604703,2270897969802886507,6620516959819538809])))])
         1280 (⟨tt,⟨tt,⟨⟨trivial,(iMul_nat (a:=8) (b:=k8) (by omega))⟩,⟨tt,⟨⟨(by omega),(iQuo_nat (a:=8 * k8) (b:=64) (by omega))⟩,⟨⟨(by omega),trivial⟩,⟨⟨(by omega),trivial⟩,⟨tt,⟨tt,⟨tt,⟨⟨trivial,(iMul_nat (a:=8) (b:=k8) (by omega))⟩,⟨tt,⟨⟨(by omega),(iRem_nat (a:=8 * k8) (b:=64))⟩,⟨⟨trivial,(iSub_nat (a:=56) (b:=(8 * k8) % 64) (by omega) (by omega))⟩,⟨⟨(by omega),trivial⟩,⟨tt,⟨⟨⟨⟨⟨(by omega),(rfl)⟩,trivial⟩,⟨(by omega),(rfl)⟩⟩,trivial⟩,⟨⟨⟨⟨⟨⟨trivial,(rfl)⟩,⟨(by omega),⟨(by omega),(by omega)⟩⟩⟩,(by omega)⟩,⟨(rfl),(by omega)⟩⟩,trivial⟩,⟨tt,trivial⟩⟩⟩⟩⟩⟩⟩⟩⟩⟩⟩⟩⟩⟩⟩⟩⟩⟩⟩) ?_
       change Tri _ _ _ _ _ _
       refine rr [(272,.i .i64 ((k8 + 1:Nat):Int))] none [26,25,12,1] [1248,672] (TT∧((True∧((iAdd .i64 (k8:Int) 1)=((k8 + 1:Nat):Int)))∧(TT∧True)))
         ([(26,qi ((k8 + 1:Nat):Int)),(25,.sc (.sl 1248 0 (z8.1 + 1) 1 none)),(12,qp 672 0),(1,qi 64)],[(1248,.ints .u8 (z8.1 + 1) (z8.2 ++ ([(IntKind.wrap .u8 (iShr .u64 ((itr (FD36w64l3 p0) ((((itr (FD36w64l0) ((239 - p0.length % 128) % 128) (p0.length + 1,p0 ++ [128])).1) + 16) / 128) (itr (FD36w64l2) 8 [7640891576956012808,13503953896175478587,4354685564936845355,11912009170470909681,5840696475078001361,11170449401992604703,2270897969802886507,6620516959819538809])).getD ((8 * k8) / 64) 0) ((56 - ((8 * k8) % 64):Nat):Int)))]))),(672,.ints .u64 8 (itr (FD36w64l3 p0) ((((itr (FD36w64l0) ((239 - p0.length % 128) % 128) (p0.length + 1,p0 ++ [128])).1) + 16) / 128) (itr (FD36w64l2) 8 [7640891576956012808,13503953896175478587,4354685564936845355,11912009170470909681,5840696475078001361,11170449401992604703,2270897969802886507,6620516959819538809])))])
         1328 (⟨tt,⟨⟨trivial,(iAdd_nat (a:=k8) (b:=1) (by omega))⟩,⟨tt,trivial⟩⟩⟩) ?_
       repeat (refine blkP_normal ?_)
       refine countP_normal (by omega) (show z8.1 + 1=1 * (k8 + 1) by omega) ?_
       exact Sub.ren (ns:=[(1248,912),(672,672)]) (kf:=[25,26,12,1]) (by kernel_rfl) (by kernel_rfl)
      ·
       have h10':=of_decide_eq_false h10
       refine Tri.exit ?_
       have hend8:k8=64:=by (have:=of_decide_eq_false h10; omega)
       subst hend8; subst hz8
       change Tri _ _ _ _ _ _
       refine sr [] none [4] [912] (TT∧(TT∧True))
         ([(4,.sc (.sl 912 0 ((itr (FD36w64l8 p0) 64 (0,[])).1) 1 none))],[(912,.ints .u8 ((itr (FD36w64l8 p0) 64 (0,[])).1) ((itr (FD36w64l8 p0) 64 (0,[])).2))])
         1008 (⟨tt,⟨tt,trivial⟩⟩) ?_
       refine Tri.ret ?_
       repeat (first | refine thenP_ret ?_ | refine blkP_ret ?_ | refine countP_ret ?_ | refine joinP_ret ?_)
       refine endP.conv (r':=⟨.sc (.sl 0 0 ((itr (FD36w64l8 p0) 64 (0,[])).1) 1 none),[.ints .u8 ((itr (FD36w64l8 p0) 64 (0,[])).1) ((itr (FD36w64l8 p0) 64 (0,[])).2)]⟩) (by simp only [FD36w64,nD36w64,sel_true,sel_false]) ?_
       exact endP.ret [(912,0)] TT (by kernel_rfl) (by kernel_rfl) (by kernel_rfl) tt
theorem lenD36w64 (p0:List Int):(FD36w64 p0).length=64:=by
 have h0:∀ (k:Nat) (z:Nat × List Int),z.2.length=z.1→(itr (FD36w64l8 p0) k z).2.length=(itr (FD36w64l8 p0) k z).1:=by
  intro k z hz
  induction k with
  | zero => rw [itr_zero]; exact hz
  | succ k ih => rw [itr_succ]; show ((itr (FD36w64l8 p0) k z).2 ++ [_]).length=(itr (FD36w64l8 p0) k z).1 + 1; rw [List.length_append,ih]; rfl
 unfold FD36w64
 rw [h0 64 _ rfl,nD36w64]
end Go.Vm
