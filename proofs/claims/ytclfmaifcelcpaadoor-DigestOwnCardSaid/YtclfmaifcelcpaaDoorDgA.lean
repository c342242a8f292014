/- What the functions compute, and that they do: walked by a printed text. -/
import Derived.Test.YtclfmaifcelcpaaDoorChecked
import Derived.Test.YtclfmaifcelcpaaDoorVmW
set_option linter.unusedVariables false
set_option linter.unusedSimpArgs false
set_option maxRecDepth 4000
namespace Go.Vm
open Go

theorem mixed : Go.Proofs.Tryd.prog.follows .mixedOrders = true := by kernel_rfl
def gStarts : List Int := [7640891576956012808, 13503953896175478587, 4354685564936845355, 11912009170470909681, 5840696475078001361, 11170449401992604703, 2270897969802886507, 6620516959819538809]
def gSteps : List Int := [4794697086780616226, 8158064640168781261, 13096744586834688815, 16840607885511220156, 4131703408338449720, 6480981068601479193, 10538285296894168987, 12329834152419229976, 15566598209576043074, 1334009975649890238, 2608012711638119052, 6128411473006802146, 8268148722764581231, 9286055187155687089, 11230858885718282805, 13951009754708518548, 16472876342353939154, 17275323862435702243, 1135362057144423861, 2597628984639134821, 3308224258029322869, 5365058923640841347, 6679025012923562964, 8573033837759648693, 10970295158949994411, 12119686244451234320, 12683024718118986047, 13788192230050041572, 14330467153632333762, 15395433587784984357, 489312712824947311, 1452737877330783856, 2861767655752347644, 3322285676063803686, 5560940570517711597, 5996557281743188959, 7280758554555802590, 8532644243296465576, 9350256976987008742, 10552545826968843579, 11727347734174303076, 12113106623233404929, 14000437183269869457, 14369950271660146224, 15101387698204529176, 15463397548674623760, 17586052441742319658, 1182934255886127544, 1847814050463011016, 2177327727835720531, 2830643537854262169, 3796741975233480872, 4115178125766777443, 5681478168544905931, 6601373596472566643, 7507060721942968483, 8399075790359081724, 8693463985226723168, 9568029438360202098, 10144078919501101548, 10430055236837252648, 11840083180663258601, 13761210420658862357, 14299343276471374635, 14566680578165727644, 15097957966210449927, 16922976911328602910, 17689382322260857208, 500013540394364858, 748580250866718886, 1242879168328830382, 1977374033974150939, 2944078676154940804, 3659926193048069267, 4368137639120453308, 4836135668995329356, 5532061633213252278, 6448918945643986474, 6902733635092675308, 7801388544844847127]
noncomputable def gD : Globs := fun g => bif Nat.beq g 0 then some (.u64, gStarts) else bif Nat.beq g 1 then some (.u64, gSteps) else none


noncomputable def F50 (p0 : Int) (p1 : Int) : Int :=
  (iOr .u32 (iShl .u32 p0 (iAnd .u64 (IntKind.wrap .u64 p1) 31)) (iShr .u32 p0 (iSub .u64 32 (iAnd .u64 (IntKind.wrap .u64 p1) 31))))

noncomputable def S50 : List AV → Option (Prop × Ret)
  | [.sc (.i .u32 p0), .sc (.i .i64 p1)] => some (True, ⟨.sc (.i .u32 (F50 p0 p1)), []⟩)
  | _ => none

noncomputable def B50 : Bs := { P := Go.Proofs.Tryd.prog, G := gD, tab := tabOf [], n := 17 }

theorem B50.ok : B50.Ok := ⟨tabOk (P := Go.Proofs.Tryd.prog) (G := gD) (l := []) True.intro, mixed⟩

theorem K50 : Known Go.Proofs.Tryd.prog gD 50 ⟨[.val, .val], 0, S50⟩ := by
  refine Known.walk (B := B50) (fn := Go.Proofs.Tryd.f50) B50.ok (by kernel_rfl) rfl (by kernel_rfl) (by kernel_rfl) (by decide) ?_ ?_
  · intro vs C r h
    simp only at h
    unfold S50 at h
    split at h
    · cases h; rfl
    · cases h
  · intro E args C r h hC hlen
    simp only at h
    unfold S50 at h
    split at h
    rotate_left
    · cases h
    rename_i p0 p1
    cases h
    simp only [lens] at hlen
    refine ⟨show 2 ≤ 17 from by decide, ?_⟩
    refine Tri.sub (Sub.of_eq (show _ = ([(0, .sc (.i .u32 p0)), (1, .sc (.i .i64 p1))], []) from rfl)) ?_
    refine Tri.seq_region [] none [0, 1] [] ((True ∧ True) ∧ True)
        ([(0, .sc (.i .u32 p0)), (1, .sc (.i .i64 p1))], [])
        16 (by kernel_rfl) rfl (by kernel_rfl) (⟨⟨trivial, trivial⟩, trivial⟩) ?_
    refine Tri.seq_region [] none [5, 0] [] ((True ∧ True) ∧ ((True ∧ True) ∧ ((True ∧ True) ∧ ((True ∧ True) ∧ True))))
        ([(5, .sc (.i .u64 (iAnd .u64 (IntKind.wrap .u64 p1) 31))), (0, .sc (.i .u32 p0))], [])
        80 (by kernel_rfl) rfl (by kernel_rfl) (⟨⟨trivial, trivial⟩, ⟨⟨trivial, trivial⟩, ⟨⟨trivial, trivial⟩, ⟨⟨trivial, trivial⟩, trivial⟩⟩⟩⟩) ?_
    refine Tri.seq_region [] none [4] [] ((True ∧ True) ∧ ((True ∧ True) ∧ ((((0 : Int) ≤ (iAnd .u64 (IntKind.wrap .u64 p1) 31)) ∧ True) ∧ ((True ∧ True) ∧ ((True ∧ True) ∧ ((True ∧ True) ∧ ((((0 : Int) ≤ (iSub .u64 32 (iAnd .u64 (IntKind.wrap .u64 p1) 31))) ∧ True) ∧ ((True ∧ True) ∧ ((True ∧ True) ∧ True)))))))))
        ([(4, .sc (.i .u32 (iOr .u32 (iShl .u32 p0 (iAnd .u64 (IntKind.wrap .u64 p1) 31)) (iShr .u32 p0 (iSub .u64 32 (iAnd .u64 (IntKind.wrap .u64 p1) 31))))))], [])
        224 (by kernel_rfl) rfl (by kernel_rfl) (⟨⟨trivial, trivial⟩, ⟨⟨trivial, trivial⟩, ⟨⟨(by first | omega | (rw [adr_eq]; omega) | exact iAnd_nn _ _ | exact iSub_nn _ _ | exact part1_le (by omega) (by first | omega | (simp only [List.length_append]; omega)) | (rw [iMul_i64 (by omega) (by omega)]; omega) | decide), trivial⟩, ⟨⟨trivial, trivial⟩, ⟨⟨trivial, trivial⟩, ⟨⟨trivial, trivial⟩, ⟨⟨(by first | omega | (unfold iSub; rw [wrap_small (by omega) (by omega)]; omega) | exact iAnd_nn _ _ | exact iSub_nn _ _), trivial⟩, ⟨⟨trivial, trivial⟩, ⟨⟨trivial, trivial⟩, trivial⟩⟩⟩⟩⟩⟩⟩⟩⟩) ?_
    refine Tri.ret ?_
    exact endP.ret [] (True ∧ True) (by kernel_rfl) (by kernel_rfl) (by kernel_rfl) ⟨trivial, trivial⟩


noncomputable def F51 (p0 : Int) (p1 : Int) : Int :=
  (iOr .u64 (iShl .u64 p0 (iAnd .u64 (IntKind.wrap .u64 p1) 63)) (iShr .u64 p0 (iSub .u64 64 (iAnd .u64 (IntKind.wrap .u64 p1) 63))))

noncomputable def S51 : List AV → Option (Prop × Ret)
  | [.sc (.i .u64 p0), .sc (.i .i64 p1)] => some (True, ⟨.sc (.i .u64 (F51 p0 p1)), []⟩)
  | _ => none

noncomputable def B51 : Bs := { P := Go.Proofs.Tryd.prog, G := gD, tab := tabOf [], n := 17 }

theorem B51.ok : B51.Ok := ⟨tabOk (P := Go.Proofs.Tryd.prog) (G := gD) (l := []) True.intro, mixed⟩

theorem K51 : Known Go.Proofs.Tryd.prog gD 51 ⟨[.val, .val], 0, S51⟩ := by
  refine Known.walk (B := B51) (fn := Go.Proofs.Tryd.f51) B51.ok (by kernel_rfl) rfl (by kernel_rfl) (by kernel_rfl) (by decide) ?_ ?_
  · intro vs C r h
    simp only at h
    unfold S51 at h
    split at h
    · cases h; rfl
    · cases h
  · intro E args C r h hC hlen
    simp only at h
    unfold S51 at h
    split at h
    rotate_left
    · cases h
    rename_i p0 p1
    cases h
    simp only [lens] at hlen
    refine ⟨show 2 ≤ 17 from by decide, ?_⟩
    refine Tri.sub (Sub.of_eq (show _ = ([(0, .sc (.i .u64 p0)), (1, .sc (.i .i64 p1))], []) from rfl)) ?_
    refine Tri.seq_region [] none [0, 1] [] ((True ∧ True) ∧ True)
        ([(0, .sc (.i .u64 p0)), (1, .sc (.i .i64 p1))], [])
        16 (by kernel_rfl) rfl (by kernel_rfl) (⟨⟨trivial, trivial⟩, trivial⟩) ?_
    refine Tri.seq_region [] none [5, 0] [] ((True ∧ True) ∧ ((True ∧ True) ∧ ((True ∧ True) ∧ ((True ∧ True) ∧ True))))
        ([(5, .sc (.i .u64 (iAnd .u64 (IntKind.wrap .u64 p1) 63))), (0, .sc (.i .u64 p0))], [])
        80 (by kernel_rfl) rfl (by kernel_rfl) (⟨⟨trivial, trivial⟩, ⟨⟨trivial, trivial⟩, ⟨⟨trivial, trivial⟩, ⟨⟨trivial, trivial⟩, trivial⟩⟩⟩⟩) ?_
    refine Tri.seq_region [] none [4] [] ((True ∧ True) ∧ ((True ∧ True) ∧ ((((0 : Int) ≤ (iAnd .u64 (IntKind.wrap .u64 p1) 63)) ∧ True) ∧ ((True ∧ True) ∧ ((True ∧ True) ∧ ((True ∧ True) ∧ ((((0 : Int) ≤ (iSub .u64 64 (iAnd .u64 (IntKind.wrap .u64 p1) 63))) ∧ True) ∧ ((True ∧ True) ∧ ((True ∧ True) ∧ True)))))))))
        ([(4, .sc (.i .u64 (iOr .u64 (iShl .u64 p0 (iAnd .u64 (IntKind.wrap .u64 p1) 63)) (iShr .u64 p0 (iSub .u64 64 (iAnd .u64 (IntKind.wrap .u64 p1) 63))))))], [])
        224 (by kernel_rfl) rfl (by kernel_rfl) (⟨⟨trivial, trivial⟩, ⟨⟨trivial, trivial⟩, ⟨⟨(by first | omega | (rw [adr_eq]; omega) | exact iAnd_nn _ _ | exact iSub_nn _ _ | exact part1_le (by omega) (by first | omega | (simp only [List.length_append]; omega)) | (rw [iMul_i64 (by omega) (by omega)]; omega) | decide), trivial⟩, ⟨⟨trivial, trivial⟩, ⟨⟨trivial, trivial⟩, ⟨⟨trivial, trivial⟩, ⟨⟨(by first | omega | (unfold iSub; rw [wrap_small (by omega) (by omega)]; omega) | exact iAnd_nn _ _ | exact iSub_nn _ _), trivial⟩, ⟨⟨trivial, trivial⟩, ⟨⟨trivial, trivial⟩, trivial⟩⟩⟩⟩⟩⟩⟩⟩⟩) ?_
    refine Tri.ret ?_
    exact endP.ret [] (True ∧ True) (by kernel_rfl) (by kernel_rfl) (by kernel_rfl) ⟨trivial, trivial⟩


noncomputable def F49w64l0 (k0 : Nat) (z0 : Nat × List Int) : Nat × List Int :=
  (z0.1 + 1, z0.2 ++ [0])

noncomputable def F49w64l1 (p0 : List Int) (k1 : Nat) (z1 : Nat × List Int) : Nat × List Int :=
  (z1.1 + 1, z1.2 ++ [(IntKind.wrap .u8 (iShr .u64 (iMul .u64 (IntKind.wrap .u64 ((p0.length : Nat) : Int)) 8) ((8 * (8 - 1 - k1) : Nat) : Int)))])

noncomputable def F49w64 (p0 : List Int) : List Int :=
  (itr (F49w64l1 p0) 8 (((itr (F49w64l0) ((119 - p0.length % 64) % 64) (p0.length + 1, p0 ++ [128])).1) + 0, ((itr (F49w64l0) ((119 - p0.length % 64) % 64) (p0.length + 1, p0 ++ [128])).2) ++ (List.replicate 0 0))).2

noncomputable def F49w64n0 (p0 : List Int) : Nat :=
  (itr (F49w64l1 p0) 8 (((itr (F49w64l0) ((119 - p0.length % 64) % 64) (p0.length + 1, p0 ++ [128])).1) + 0, ((itr (F49w64l0) ((119 - p0.length % 64) % 64) (p0.length + 1, p0 ++ [128])).2) ++ (List.replicate 0 0))).1

noncomputable def S49w64 : List AV → Option (Prop × Ret)
  | [.sc (.ro .u8 p0), .sc (.i .i64 64)] => some (p0.length ≤ 1000000000, ⟨.sc (.sl 0 0 (F49w64n0 p0) 1 none), [.ints .u8 (F49w64n0 p0) (F49w64 p0)]⟩)
  | _ => none

noncomputable def B49w64 : Bs := { P := Go.Proofs.Tryd.prog, G := gD, tab := tabOf [], n := 44 }

theorem B49w64.ok : B49w64.Ok := ⟨tabOk (P := Go.Proofs.Tryd.prog) (G := gD) (l := []) True.intro, mixed⟩

theorem K49w64 : Known Go.Proofs.Tryd.prog gD 49 ⟨[.ro .u8, .val], 1, S49w64⟩ := by
  refine Known.walk (B := B49w64) (fn := Go.Proofs.Tryd.f49) B49w64.ok (by kernel_rfl) rfl (by kernel_rfl) (by kernel_rfl) (by decide) ?_ ?_
  · intro vs C r h
    simp only at h
    unfold S49w64 at h
    split at h
    · cases h; rfl
    · cases h
  · intro E args C r h hC hlen
    simp only at h
    unfold S49w64 at h
    split at h
    rotate_left
    · cases h
    rename_i p0
    cases h
    simp only [lens] at hlen
    refine ⟨show 2 ≤ 44 from by decide, ?_⟩
    refine Tri.sub (Sub.of_eq (show _ = ([(0, .sc (.ro .u8 p0)), (1, .sc (.i .i64 64))], []) from rfl)) ?_
    refine Tri.seq_region [] none [0, 1] [] ((True ∧ True) ∧ True)
        ([(0, .sc (.ro .u8 p0)), (1, .sc (.i .i64 64))], [])
        16 (by kernel_rfl) rfl (by kernel_rfl) (⟨⟨trivial, trivial⟩, trivial⟩) ?_
    refine Tri.seq_region [] none [5, 0, 1] [64] ((True ∧ True) ∧ (((((True ∧ (1 = 1)) ∧ ((0 < 1) ∧ ((p0.length * 1 ≤ 140737488355328) ∧ (p0.length ≤ 140737488355328)))) ∧ (p0.length = p0.length * 1)) ∧ True) ∧ ((((((0 < 1) ∧ (1 = 1)) ∧ True) ∧ ((1 * 1 ≤ 16777216) ∧ (1 = 1))) ∧ True) ∧ ((((((True ∧ (1 = 1)) ∧ ((0 < 1) ∧ (((p0.length + 1) * 1 ≤ 140737488355328) ∧ (p0.length + 1 ≤ 140737488355328)))) ∧ (1 = 1 * 1)) ∧ ((1 = 1) ∧ (0 + p0.length * 1 = p0.length))) ∧ True) ∧ ((True ∧ True) ∧ True)))))
        ([(5, .sc (.sl 64 0 (p0.length + 1) 1 none)), (0, .sc (.ro .u8 p0)), (1, .sc (.i .i64 64))], [(64, .ints .u8 (p0.length + 1) (p0 ++ [128]))])
        96 (by kernel_rfl) rfl (by kernel_rfl) (⟨⟨trivial, trivial⟩, ⟨⟨⟨⟨⟨trivial, (rfl)⟩, ⟨(by first | omega | (rw [adr_eq]; omega) | exact iAnd_nn _ _ | exact iSub_nn _ _ | exact part1_le (by omega) (by first | omega | (simp only [List.length_append]; omega)) | (rw [iMul_i64 (by omega) (by omega)]; omega) | decide), ⟨(by first | omega | (rw [adr_eq]; omega) | exact iAnd_nn _ _ | exact iSub_nn _ _ | exact part1_le (by omega) (by first | omega | (simp only [List.length_append]; omega)) | (rw [iMul_i64 (by omega) (by omega)]; omega) | decide), (by first | omega | (rw [adr_eq]; omega) | exact iAnd_nn _ _ | exact iSub_nn _ _ | exact part1_le (by omega) (by first | omega | (simp only [List.length_append]; omega)) | (rw [iMul_i64 (by omega) (by omega)]; omega) | decide)⟩⟩⟩, (by first | omega | (rw [adr_eq]; omega) | exact iAnd_nn _ _ | exact iSub_nn _ _ | exact part1_le (by omega) (by first | omega | (simp only [List.length_append]; omega)) | (rw [iMul_i64 (by omega) (by omega)]; omega) | decide)⟩, trivial⟩, ⟨⟨⟨⟨⟨(by first | omega | (rw [adr_eq]; omega) | exact iAnd_nn _ _ | exact iSub_nn _ _ | exact part1_le (by omega) (by first | omega | (simp only [List.length_append]; omega)) | (rw [iMul_i64 (by omega) (by omega)]; omega) | decide), (rfl)⟩, trivial⟩, ⟨(by first | omega | (rw [adr_eq]; omega) | exact iAnd_nn _ _ | exact iSub_nn _ _ | exact part1_le (by omega) (by first | omega | (simp only [List.length_append]; omega)) | (rw [iMul_i64 (by omega) (by omega)]; omega) | decide), (rfl)⟩⟩, trivial⟩, ⟨⟨⟨⟨⟨⟨trivial, (rfl)⟩, ⟨(by first | omega | (rw [adr_eq]; omega) | exact iAnd_nn _ _ | exact iSub_nn _ _ | exact part1_le (by omega) (by first | omega | (simp only [List.length_append]; omega)) | (rw [iMul_i64 (by omega) (by omega)]; omega) | decide), ⟨(by first | omega | (rw [adr_eq]; omega) | exact iAnd_nn _ _ | exact iSub_nn _ _ | exact part1_le (by omega) (by first | omega | (simp only [List.length_append]; omega)) | (rw [iMul_i64 (by omega) (by omega)]; omega) | decide), (by first | omega | (rw [adr_eq]; omega) | exact iAnd_nn _ _ | exact iSub_nn _ _ | exact part1_le (by omega) (by first | omega | (simp only [List.length_append]; omega)) | (rw [iMul_i64 (by omega) (by omega)]; omega) | decide)⟩⟩⟩, (by first | omega | (rw [adr_eq]; omega) | exact iAnd_nn _ _ | exact iSub_nn _ _ | exact part1_le (by omega) (by first | omega | (simp only [List.length_append]; omega)) | (rw [iMul_i64 (by omega) (by omega)]; omega) | decide)⟩, ⟨(rfl), (by first | omega | (rw [adr_eq]; omega) | exact iAnd_nn _ _ | exact iSub_nn _ _ | exact part1_le (by omega) (by first | omega | (simp only [List.length_append]; omega)) | (rw [iMul_i64 (by omega) (by omega)]; omega) | decide)⟩⟩, trivial⟩, ⟨⟨trivial, trivial⟩, trivial⟩⟩⟩⟩⟩) ?_
    refine Tri.seq ?_
    refine Tri.block ?_
    refine Tri.count 96 ((119 - p0.length % 64) % 64) (F49w64l0) (p0.length + 1, p0 ++ [128]) (fun k0 z0 => z0.1 = (p0.length + 1) + 1 * k0) (fun k0 z0 => ([(5, .sc (.sl 64 0 z0.1 1 none)), (0, .sc (.ro .u8 p0)), (1, .sc (.i .i64 64))], [(64, .ints .u8 z0.1 z0.2)])) (by simp) (Sub.of_eq (by kernel_rfl)) ?_
    intro k0 z0 hk0 hz0 hJ0
    refine Tri.seq ?_
    refine Tri.len 64 rfl (fun hl1 => ?_)
    refine Tri.seq_region [(14, .i .i64 ((z0.1 % 64 : Nat) : Int))] none [19, 5, 0, 1] [64] ((True ∧ True) ∧ ((True ∧ True) ∧ ((True ∧ True) ∧ (((64 ≠ (0 : Int)) ∧ ((iRem ((z0.1 : Nat) : Int) 64) = ((z0.1 % 64 : Nat) : Int))) ∧ ((True ∧ True) ∧ ((True ∧ True) ∧ (((8 ≠ (0 : Int)) ∧ True) ∧ ((True ∧ True) ∧ ((True ∧ True) ∧ True)))))))))
        ([(19, .sc (.b ((((z0.1 % 64 : Nat) : Int) : Int) != 56))), (5, .sc (.sl 64 0 z0.1 1 none)), (0, .sc (.ro .u8 p0)), (1, .sc (.i .i64 64))], [(64, .ints .u8 z0.1 z0.2)])
        240 (by kernel_rfl) rfl (by kernel_rfl) (⟨⟨trivial, trivial⟩, ⟨⟨trivial, trivial⟩, ⟨⟨trivial, trivial⟩, ⟨⟨(by first | omega | (rw [adr_eq]; omega) | exact iAnd_nn _ _ | exact iSub_nn _ _ | exact part1_le (by omega) (by first | omega | (simp only [List.length_append]; omega)) | (rw [iMul_i64 (by omega) (by omega)]; omega) | decide), (iRem_nat (a := z0.1) (b := 64))⟩, ⟨⟨trivial, trivial⟩, ⟨⟨trivial, trivial⟩, ⟨⟨(by first | omega | (rw [adr_eq]; omega) | exact iAnd_nn _ _ | exact iSub_nn _ _ | exact part1_le (by omega) (by first | omega | (simp only [List.length_append]; omega)) | (rw [iMul_i64 (by omega) (by omega)]; omega) | decide), trivial⟩, ⟨⟨trivial, trivial⟩, ⟨⟨trivial, trivial⟩, trivial⟩⟩⟩⟩⟩⟩⟩⟩⟩) ?_
    refine Tri.cond (x := ((((z0.1 % 64 : Nat) : Int) : Int) != 56)) (by kernel_rfl) (fun h2 => ?_) (fun h2 => ?_)
    ·
      have h2' := ne_true_i h2
      refine Tri.skip ?_
      change Tri _ _ _ _ _ _
      refine Tri.block ?_
      refine Tri.len 64 rfl (fun hl3 => ?_)
      refine Tri.region' [] none [5, 0, 1] [272] ((True ∧ True) ∧ ((((((0 < 1) ∧ (1 = 1)) ∧ True) ∧ ((1 * 1 ≤ 16777216) ∧ (1 = 1))) ∧ True) ∧ ((((((True ∧ (1 = 1)) ∧ ((0 < 1) ∧ (((z0.1 + 1) * 1 ≤ 140737488355328) ∧ (z0.1 + 1 ≤ 140737488355328)))) ∧ (1 = 1 * 1)) ∧ ((1 = 1) ∧ (0 + z0.1 * 1 = z0.1))) ∧ True) ∧ ((True ∧ True) ∧ True))))
          ([(5, .sc (.sl 272 0 (z0.1 + 1) 1 none)), (0, .sc (.ro .u8 p0)), (1, .sc (.i .i64 64))], [(272, .ints .u8 (z0.1 + 1) (z0.2 ++ [0]))])
          304 (by kernel_rfl) rfl (by kernel_rfl) (⟨⟨trivial, trivial⟩, ⟨⟨⟨⟨⟨(by first | omega | (rw [adr_eq]; omega) | exact iAnd_nn _ _ | exact iSub_nn _ _ | exact part1_le (by omega) (by first | omega | (simp only [List.length_append]; omega)) | (rw [iMul_i64 (by omega) (by omega)]; omega) | decide), (rfl)⟩, trivial⟩, ⟨(by first | omega | (rw [adr_eq]; omega) | exact iAnd_nn _ _ | exact iSub_nn _ _ | exact part1_le (by omega) (by first | omega | (simp only [List.length_append]; omega)) | (rw [iMul_i64 (by omega) (by omega)]; omega) | decide), (rfl)⟩⟩, trivial⟩, ⟨⟨⟨⟨⟨⟨trivial, (rfl)⟩, ⟨(by first | omega | (rw [adr_eq]; omega) | exact iAnd_nn _ _ | exact iSub_nn _ _ | exact part1_le (by omega) (by first | omega | (simp only [List.length_append]; omega)) | (rw [iMul_i64 (by omega) (by omega)]; omega) | decide), ⟨(by first | omega | (rw [adr_eq]; omega) | exact iAnd_nn _ _ | exact iSub_nn _ _ | exact part1_le (by omega) (by first | omega | (simp only [List.length_append]; omega)) | (rw [iMul_i64 (by omega) (by omega)]; omega) | decide), (by first | omega | (rw [adr_eq]; omega) | exact iAnd_nn _ _ | exact iSub_nn _ _ | exact part1_le (by omega) (by first | omega | (simp only [List.length_append]; omega)) | (rw [iMul_i64 (by omega) (by omega)]; omega) | decide)⟩⟩⟩, (by first | omega | (rw [adr_eq]; omega) | exact iAnd_nn _ _ | exact iSub_nn _ _ | exact part1_le (by omega) (by first | omega | (simp only [List.length_append]; omega)) | (rw [iMul_i64 (by omega) (by omega)]; omega) | decide)⟩, ⟨(rfl), (by first | omega | (rw [adr_eq]; omega) | exact iAnd_nn _ _ | exact iSub_nn _ _ | exact part1_le (by omega) (by first | omega | (simp only [List.length_append]; omega)) | (rw [iMul_i64 (by omega) (by omega)]; omega) | decide)⟩⟩, trivial⟩, ⟨⟨trivial, trivial⟩, trivial⟩⟩⟩⟩) ?_
      repeat (refine blkP_normal ?_)
      refine countP_normal (by have h9 := ne_true_i h2; omega) (show z0.1 + 1 = (p0.length + 1) + 1 * (k0 + 1) by omega) ?_
      exact Sub.ren (ns := [(272, 64)]) (kf := [5, 0, 1]) (by kernel_rfl) (by kernel_rfl)
    ·
      have h2' := ne_false_i h2
      refine Tri.exit ?_
      have hend0 : k0 = ((119 - p0.length % 64) % 64) := by (have h9 := ne_false_i h2; omega)
      subst hend0; subst hz0
      change Tri _ _ _ _ _ _
      refine Tri.len 64 rfl (fun hl4 => ?_)
      refine Tri.seq_region [] none [5, 0] [304] ((True ∧ True) ∧ ((True ∧ True) ∧ (((8 ≠ (0 : Int)) ∧ True) ∧ ((True ∧ True) ∧ ((((((((((0 : Int) ≤ 0) ∧ (0 ≤ (140737488355328 : Int))) ∧ (((1 : Nat) : Int) * 0 ≤ 281474976710656)) ∧ (1 = 1)) ∧ ((0 < 1) ∧ (((((itr (F49w64l0) ((119 - p0.length % 64) % 64) (p0.length + 1, p0 ++ [128])).1) + 0) * 1 ≤ 140737488355328) ∧ (((itr (F49w64l0) ((119 - p0.length % 64) % 64) (p0.length + 1, p0 ++ [128])).1) + 0 ≤ 140737488355328)))) ∧ (0 = 0 * 1)) ∧ ((1 = 1) ∧ (0 + ((itr (F49w64l0) ((119 - p0.length % 64) % 64) (p0.length + 1, p0 ++ [128])).1) * 1 = (itr (F49w64l0) ((119 - p0.length % 64) % 64) (p0.length + 1, p0 ++ [128])).1))) ∧ True) ∧ ((True ∧ True) ∧ True))))))
          ([(5, .sc (.sl 304 0 (((itr (F49w64l0) ((119 - p0.length % 64) % 64) (p0.length + 1, p0 ++ [128])).1) + 0) 1 none)), (0, .sc (.ro .u8 p0))], [(304, .ints .u8 (((itr (F49w64l0) ((119 - p0.length % 64) % 64) (p0.length + 1, p0 ++ [128])).1) + 0) (((itr (F49w64l0) ((119 - p0.length % 64) % 64) (p0.length + 1, p0 ++ [128])).2) ++ (List.replicate 0 0)))])
          336 (by kernel_rfl) rfl (by kernel_rfl) (⟨⟨trivial, trivial⟩, ⟨⟨trivial, trivial⟩, ⟨⟨(by first | omega | (rw [adr_eq]; omega) | exact iAnd_nn _ _ | exact iSub_nn _ _ | exact part1_le (by omega) (by first | omega | (simp only [List.length_append]; omega)) | (rw [iMul_i64 (by omega) (by omega)]; omega) | decide), trivial⟩, ⟨⟨trivial, trivial⟩, ⟨⟨⟨⟨⟨⟨⟨⟨(by first | omega | (rw [adr_eq]; omega) | exact iAnd_nn _ _ | exact iSub_nn _ _ | exact part1_le (by omega) (by first | omega | (simp only [List.length_append]; omega)) | (rw [iMul_i64 (by omega) (by omega)]; omega) | decide), (by first | omega | (rw [adr_eq]; omega) | exact iAnd_nn _ _ | exact iSub_nn _ _ | exact part1_le (by omega) (by first | omega | (simp only [List.length_append]; omega)) | (rw [iMul_i64 (by omega) (by omega)]; omega) | decide)⟩, (by first | omega | (rw [adr_eq]; omega) | exact iAnd_nn _ _ | exact iSub_nn _ _ | exact part1_le (by omega) (by first | omega | (simp only [List.length_append]; omega)) | (rw [iMul_i64 (by omega) (by omega)]; omega) | decide)⟩, (rfl)⟩, ⟨(by first | omega | (rw [adr_eq]; omega) | exact iAnd_nn _ _ | exact iSub_nn _ _ | exact part1_le (by omega) (by first | omega | (simp only [List.length_append]; omega)) | (rw [iMul_i64 (by omega) (by omega)]; omega) | decide), ⟨(by first | omega | (rw [adr_eq]; omega) | exact iAnd_nn _ _ | exact iSub_nn _ _ | exact part1_le (by omega) (by first | omega | (simp only [List.length_append]; omega)) | (rw [iMul_i64 (by omega) (by omega)]; omega) | decide), (by first | omega | (rw [adr_eq]; omega) | exact iAnd_nn _ _ | exact iSub_nn _ _ | exact part1_le (by omega) (by first | omega | (simp only [List.length_append]; omega)) | (rw [iMul_i64 (by omega) (by omega)]; omega) | decide)⟩⟩⟩, (by first | omega | (rw [adr_eq]; omega) | exact iAnd_nn _ _ | exact iSub_nn _ _ | exact part1_le (by omega) (by first | omega | (simp only [List.length_append]; omega)) | (rw [iMul_i64 (by omega) (by omega)]; omega) | decide)⟩, ⟨(rfl), (by first | omega | (rw [adr_eq]; omega) | exact iAnd_nn _ _ | exact iSub_nn _ _ | exact part1_le (by omega) (by first | omega | (simp only [List.length_append]; omega)) | (rw [iMul_i64 (by omega) (by omega)]; omega) | decide)⟩⟩, trivial⟩, ⟨⟨trivial, trivial⟩, trivial⟩⟩⟩⟩⟩⟩) ?_
      refine Tri.seq ?_
      refine Tri.seq_region [] none [6, 5, 0] [304] ((True ∧ True) ∧ True)
          ([(6, .sc (.i .i64 7)), (5, .sc (.sl 304 0 (((itr (F49w64l0) ((119 - p0.length % 64) % 64) (p0.length + 1, p0 ++ [128])).1) + 0) 1 none)), (0, .sc (.ro .u8 p0))], [(304, .ints .u8 (((itr (F49w64l0) ((119 - p0.length % 64) % 64) (p0.length + 1, p0 ++ [128])).1) + 0) (((itr (F49w64l0) ((119 - p0.length % 64) % 64) (p0.length + 1, p0 ++ [128])).2) ++ (List.replicate 0 0)))])
          352 (by kernel_rfl) rfl (by kernel_rfl) (⟨⟨trivial, trivial⟩, trivial⟩) ?_
      refine Tri.block ?_
      refine Tri.count 352 8 (F49w64l1 p0) (((itr (F49w64l0) ((119 - p0.length % 64) % 64) (p0.length + 1, p0 ++ [128])).1) + 0, ((itr (F49w64l0) ((119 - p0.length % 64) % 64) (p0.length + 1, p0 ++ [128])).2) ++ (List.replicate 0 0)) (fun k1 z1 => z1.1 = (((itr (F49w64l0) ((119 - p0.length % 64) % 64) (p0.length + 1, p0 ++ [128])).1) + 0) + 1 * k1) (fun k1 z1 => ([(6, .sc (.i .i64 (((8 : Nat) : Int) - 1 - ((k1 : Nat) : Int)))), (5, .sc (.sl 304 0 z1.1 1 none)), (0, .sc (.ro .u8 p0))], [(304, .ints .u8 z1.1 z1.2)])) (by simp) (Sub.of_eq (by kernel_rfl)) ?_
      intro k1 z1 hk1 hz1 hJ1
      refine Tri.seq ?_
      refine Tri.seq_region [] none [29, 6, 5, 0] [304] ((True ∧ True) ∧ ((True ∧ True) ∧ True))
          ([(29, .sc (.b (decide (((((8 : Nat) : Int) - 1 - ((k1 : Nat) : Int)) : Int) ≥ 0)))), (6, .sc (.i .i64 (((8 : Nat) : Int) - 1 - ((k1 : Nat) : Int)))), (5, .sc (.sl 304 0 z1.1 1 none)), (0, .sc (.ro .u8 p0))], [(304, .ints .u8 z1.1 z1.2)])
          384 (by kernel_rfl) rfl (by kernel_rfl) (⟨⟨trivial, trivial⟩, ⟨⟨trivial, trivial⟩, trivial⟩⟩) ?_
      refine Tri.cond (x := (decide (((((8 : Nat) : Int) - 1 - ((k1 : Nat) : Int)) : Int) ≥ 0))) (by kernel_rfl) (fun h5 => ?_) (fun h5 => ?_)
      ·
        have h5' := of_decide_eq_true h5
        refine Tri.skip ?_
        change Tri _ _ _ _ _ _
        refine Tri.seq ?_
        refine Tri.block ?_
        refine Tri.len 304 rfl (fun hl6 => ?_)
        refine Tri.region' [(38, .i .i64 ((8 * (8 - 1 - k1) : Nat) : Int))] none [5, 6, 0] [544] ((True ∧ True) ∧ ((True ∧ True) ∧ ((True ∧ True) ∧ ((True ∧ True) ∧ ((True ∧ True) ∧ ((True ∧ True) ∧ ((True ∧ ((iMul .i64 8 (((8 : Nat) : Int) - 1 - ((k1 : Nat) : Int))) = ((8 * (8 - 1 - k1) : Nat) : Int))) ∧ ((((0 : Int) ≤ ((8 * (8 - 1 - k1) : Nat) : Int)) ∧ True) ∧ ((True ∧ True) ∧ ((((((0 < 1) ∧ (1 = 1)) ∧ True) ∧ ((1 * 1 ≤ 16777216) ∧ (1 = 1))) ∧ True) ∧ ((((((True ∧ (1 = 1)) ∧ ((0 < 1) ∧ (((z1.1 + 1) * 1 ≤ 140737488355328) ∧ (z1.1 + 1 ≤ 140737488355328)))) ∧ (1 = 1 * 1)) ∧ ((1 = 1) ∧ (0 + z1.1 * 1 = z1.1))) ∧ True) ∧ ((True ∧ True) ∧ True))))))))))))
            ([(5, .sc (.sl 544 0 (z1.1 + 1) 1 none)), (6, .sc (.i .i64 (((8 : Nat) : Int) - 1 - ((k1 : Nat) : Int)))), (0, .sc (.ro .u8 p0))], [(544, .ints .u8 (z1.1 + 1) (z1.2 ++ [(IntKind.wrap .u8 (iShr .u64 (iMul .u64 (IntKind.wrap .u64 ((p0.length : Nat) : Int)) 8) ((8 * (8 - 1 - k1) : Nat) : Int)))]))])
            576 (by kernel_rfl) rfl (by kernel_rfl) (⟨⟨trivial, trivial⟩, ⟨⟨trivial, trivial⟩, ⟨⟨trivial, trivial⟩, ⟨⟨trivial, trivial⟩, ⟨⟨trivial, trivial⟩, ⟨⟨trivial, trivial⟩, ⟨⟨trivial, (by rw [dn_nat (by omega)]; exact iMul_nat (a := 8) (b := 8 - 1 - k1) (by omega))⟩, ⟨⟨(by first | omega | (rw [adr_eq]; omega) | exact iAnd_nn _ _ | exact iSub_nn _ _ | exact part1_le (by omega) (by first | omega | (simp only [List.length_append]; omega)) | (rw [iMul_i64 (by omega) (by omega)]; omega) | decide), trivial⟩, ⟨⟨trivial, trivial⟩, ⟨⟨⟨⟨⟨(by first | omega | (rw [adr_eq]; omega) | exact iAnd_nn _ _ | exact iSub_nn _ _ | exact part1_le (by omega) (by first | omega | (simp only [List.length_append]; omega)) | (rw [iMul_i64 (by omega) (by omega)]; omega) | decide), (rfl)⟩, trivial⟩, ⟨(by first | omega | (rw [adr_eq]; omega) | exact iAnd_nn _ _ | exact iSub_nn _ _ | exact part1_le (by omega) (by first | omega | (simp only [List.length_append]; omega)) | (rw [iMul_i64 (by omega) (by omega)]; omega) | decide), (rfl)⟩⟩, trivial⟩, ⟨⟨⟨⟨⟨⟨trivial, (rfl)⟩, ⟨(by first | omega | (rw [adr_eq]; omega) | exact iAnd_nn _ _ | exact iSub_nn _ _ | exact part1_le (by omega) (by first | omega | (simp only [List.length_append]; omega)) | (rw [iMul_i64 (by omega) (by omega)]; omega) | decide), ⟨(by first | omega | (rw [adr_eq]; omega) | exact iAnd_nn _ _ | exact iSub_nn _ _ | exact part1_le (by omega) (by first | omega | (simp only [List.length_append]; omega)) | (rw [iMul_i64 (by omega) (by omega)]; omega) | decide), (by first | omega | (rw [adr_eq]; omega) | exact iAnd_nn _ _ | exact iSub_nn _ _ | exact part1_le (by omega) (by first | omega | (simp only [List.length_append]; omega)) | (rw [iMul_i64 (by omega) (by omega)]; omega) | decide)⟩⟩⟩, (by first | omega | (rw [adr_eq]; omega) | exact iAnd_nn _ _ | exact iSub_nn _ _ | exact part1_le (by omega) (by first | omega | (simp only [List.length_append]; omega)) | (rw [iMul_i64 (by omega) (by omega)]; omega) | decide)⟩, ⟨(rfl), (by first | omega | (rw [adr_eq]; omega) | exact iAnd_nn _ _ | exact iSub_nn _ _ | exact part1_le (by omega) (by first | omega | (simp only [List.length_append]; omega)) | (rw [iMul_i64 (by omega) (by omega)]; omega) | decide)⟩⟩, trivial⟩, ⟨⟨trivial, trivial⟩, trivial⟩⟩⟩⟩⟩⟩⟩⟩⟩⟩⟩⟩) ?_
        change Tri _ _ _ _ _ _
        refine Tri.region' [(31, .i .i64 (((8 : Nat) : Int) - 1 - ((k1 + 1 : Nat) : Int)))] none [6, 5, 0] [544] ((True ∧ True) ∧ ((True ∧ ((iSub .i64 (((8 : Nat) : Int) - 1 - ((k1 : Nat) : Int)) 1) = (((8 : Nat) : Int) - 1 - ((k1 + 1 : Nat) : Int)))) ∧ ((True ∧ True) ∧ True)))
            ([(6, .sc (.i .i64 (((8 : Nat) : Int) - 1 - ((k1 + 1 : Nat) : Int)))), (5, .sc (.sl 544 0 (z1.1 + 1) 1 none)), (0, .sc (.ro .u8 p0))], [(544, .ints .u8 (z1.1 + 1) (z1.2 ++ [(IntKind.wrap .u8 (iShr .u64 (iMul .u64 (IntKind.wrap .u64 ((p0.length : Nat) : Int)) 8) ((8 * (8 - 1 - k1) : Nat) : Int)))]))])
            624 (by kernel_rfl) rfl (by kernel_rfl) (⟨⟨trivial, trivial⟩, ⟨⟨trivial, (iSub_dn (by omega) (by omega))⟩, ⟨⟨trivial, trivial⟩, trivial⟩⟩⟩) ?_
        repeat (refine blkP_normal ?_)
        refine countP_normal (by omega) (show z1.1 + 1 = (((itr (F49w64l0) ((119 - p0.length % 64) % 64) (p0.length + 1, p0 ++ [128])).1) + 0) + 1 * (k1 + 1) by omega) ?_
        exact Sub.ren (ns := [(544, 304)]) (kf := [6, 5, 0]) (by kernel_rfl) (by kernel_rfl)
      ·
        have h5' := of_decide_eq_false h5
        refine Tri.exit ?_
        have hend1 : k1 = 8 := by (have := of_decide_eq_false h5; omega)
        subst hend1; subst hz1
        change Tri _ _ _ _ _ _
        refine Tri.seq_region [] none [4] [304] ((True ∧ True) ∧ ((True ∧ True) ∧ True))
            ([(4, .sc (.sl 304 0 ((itr (F49w64l1 p0) 8 (((itr (F49w64l0) ((119 - p0.length % 64) % 64) (p0.length + 1, p0 ++ [128])).1) + 0, ((itr (F49w64l0) ((119 - p0.length % 64) % 64) (p0.length + 1, p0 ++ [128])).2) ++ (List.replicate 0 0))).1) 1 none))], [(304, .ints .u8 ((itr (F49w64l1 p0) 8 (((itr (F49w64l0) ((119 - p0.length % 64) % 64) (p0.length + 1, p0 ++ [128])).1) + 0, ((itr (F49w64l0) ((119 - p0.length % 64) % 64) (p0.length + 1, p0 ++ [128])).2) ++ (List.replicate 0 0))).1) ((itr (F49w64l1 p0) 8 (((itr (F49w64l0) ((119 - p0.length % 64) % 64) (p0.length + 1, p0 ++ [128])).1) + 0, ((itr (F49w64l0) ((119 - p0.length % 64) % 64) (p0.length + 1, p0 ++ [128])).2) ++ (List.replicate 0 0))).2))])
            416 (by kernel_rfl) rfl (by kernel_rfl) (⟨⟨trivial, trivial⟩, ⟨⟨trivial, trivial⟩, trivial⟩⟩) ?_
        refine Tri.ret ?_
        repeat (first | refine thenP_ret ?_ | refine blkP_ret ?_ | refine countP_ret ?_ | refine joinP_ret ?_)
        exact endP.ret [(304, 0)] (True ∧ True) (by kernel_rfl) (by kernel_rfl) (by kernel_rfl) ⟨trivial, trivial⟩


theorem n49w64 (p0 : List Int) : F49w64n0 p0 = p0.length + 9 + (119 - p0.length % 64) % 64 + 0 := by
  have h0 : ∀ (k : Nat) (z : Nat × List Int), (itr F49w64l0 k z).1 = z.1 + k := by
    intro k z
    induction k with
    | zero => rw [itr_zero]; rfl
    | succ k ih => rw [itr_succ]; show (itr F49w64l0 k z).1 + 1 = _; rw [ih]; omega
  have h1 : ∀ (k : Nat) (z : Nat × List Int), (itr (F49w64l1 p0) k z).1 = z.1 + k := by
    intro k z
    induction k with
    | zero => rw [itr_zero]; rfl
    | succ k ih => rw [itr_succ]; show (itr (F49w64l1 p0) k z).1 + 1 = _; rw [ih]; omega
  unfold F49w64n0
  rw [h1, h0]
  omega


noncomputable def F49w128l0 (k0 : Nat) (z0 : Nat × List Int) : Nat × List Int :=
  (z0.1 + 1, z0.2 ++ [0])

noncomputable def F49w128l1 (p0 : List Int) (k1 : Nat) (z1 : Nat × List Int) : Nat × List Int :=
  (z1.1 + 1, z1.2 ++ [(IntKind.wrap .u8 (iShr .u64 (iMul .u64 (IntKind.wrap .u64 ((p0.length : Nat) : Int)) 8) ((8 * (8 - 1 - k1) : Nat) : Int)))])

noncomputable def F49w128 (p0 : List Int) : List Int :=
  (itr (F49w128l1 p0) 8 (((itr (F49w128l0) ((239 - p0.length % 128) % 128) (p0.length + 1, p0 ++ [128])).1) + 8, ((itr (F49w128l0) ((239 - p0.length % 128) % 128) (p0.length + 1, p0 ++ [128])).2) ++ (List.replicate 8 0))).2

noncomputable def F49w128n0 (p0 : List Int) : Nat :=
  (itr (F49w128l1 p0) 8 (((itr (F49w128l0) ((239 - p0.length % 128) % 128) (p0.length + 1, p0 ++ [128])).1) + 8, ((itr (F49w128l0) ((239 - p0.length % 128) % 128) (p0.length + 1, p0 ++ [128])).2) ++ (List.replicate 8 0))).1

noncomputable def S49w128 : List AV → Option (Prop × Ret)
  | [.sc (.ro .u8 p0), .sc (.i .i64 128)] => some (p0.length ≤ 1000000000, ⟨.sc (.sl 0 0 (F49w128n0 p0) 1 none), [.ints .u8 (F49w128n0 p0) (F49w128 p0)]⟩)
  | _ => none

noncomputable def B49w128 : Bs := { P := Go.Proofs.Tryd.prog, G := gD, tab := tabOf [], n := 44 }

theorem B49w128.ok : B49w128.Ok := ⟨tabOk (P := Go.Proofs.Tryd.prog) (G := gD) (l := []) True.intro, mixed⟩

theorem K49w128 : Known Go.Proofs.Tryd.prog gD 49 ⟨[.ro .u8, .val], 1, S49w128⟩ := by
  refine Known.walk (B := B49w128) (fn := Go.Proofs.Tryd.f49) B49w128.ok (by kernel_rfl) rfl (by kernel_rfl) (by kernel_rfl) (by decide) ?_ ?_
  · intro vs C r h
    simp only at h
    unfold S49w128 at h
    split at h
    · cases h; rfl
    · cases h
  · intro E args C r h hC hlen
    simp only at h
    unfold S49w128 at h
    split at h
    rotate_left
    · cases h
    rename_i p0
    cases h
    simp only [lens] at hlen
    refine ⟨show 2 ≤ 44 from by decide, ?_⟩
    refine Tri.sub (Sub.of_eq (show _ = ([(0, .sc (.ro .u8 p0)), (1, .sc (.i .i64 128))], []) from rfl)) ?_
    refine Tri.seq_region [] none [0, 1] [] ((True ∧ True) ∧ True)
        ([(0, .sc (.ro .u8 p0)), (1, .sc (.i .i64 128))], [])
        16 (by kernel_rfl) rfl (by kernel_rfl) (⟨⟨trivial, trivial⟩, trivial⟩) ?_
    refine Tri.seq_region [] none [5, 0, 1] [64] ((True ∧ True) ∧ (((((True ∧ (1 = 1)) ∧ ((0 < 1) ∧ ((p0.length * 1 ≤ 140737488355328) ∧ (p0.length ≤ 140737488355328)))) ∧ (p0.length = p0.length * 1)) ∧ True) ∧ ((((((0 < 1) ∧ (1 = 1)) ∧ True) ∧ ((1 * 1 ≤ 16777216) ∧ (1 = 1))) ∧ True) ∧ ((((((True ∧ (1 = 1)) ∧ ((0 < 1) ∧ (((p0.length + 1) * 1 ≤ 140737488355328) ∧ (p0.length + 1 ≤ 140737488355328)))) ∧ (1 = 1 * 1)) ∧ ((1 = 1) ∧ (0 + p0.length * 1 = p0.length))) ∧ True) ∧ ((True ∧ True) ∧ True)))))
        ([(5, .sc (.sl 64 0 (p0.length + 1) 1 none)), (0, .sc (.ro .u8 p0)), (1, .sc (.i .i64 128))], [(64, .ints .u8 (p0.length + 1) (p0 ++ [128]))])
        96 (by kernel_rfl) rfl (by kernel_rfl) (⟨⟨trivial, trivial⟩, ⟨⟨⟨⟨⟨trivial, (rfl)⟩, ⟨(by first | omega | (rw [adr_eq]; omega) | exact iAnd_nn _ _ | exact iSub_nn _ _ | exact part1_le (by omega) (by first | omega | (simp only [List.length_append]; omega)) | (rw [iMul_i64 (by omega) (by omega)]; omega) | decide), ⟨(by first | omega | (rw [adr_eq]; omega) | exact iAnd_nn _ _ | exact iSub_nn _ _ | exact part1_le (by omega) (by first | omega | (simp only [List.length_append]; omega)) | (rw [iMul_i64 (by omega) (by omega)]; omega) | decide), (by first | omega | (rw [adr_eq]; omega) | exact iAnd_nn _ _ | exact iSub_nn _ _ | exact part1_le (by omega) (by first | omega | (simp only [List.length_append]; omega)) | (rw [iMul_i64 (by omega) (by omega)]; omega) | decide)⟩⟩⟩, (by first | omega | (rw [adr_eq]; omega) | exact iAnd_nn _ _ | exact iSub_nn _ _ | exact part1_le (by omega) (by first | omega | (simp only [List.length_append]; omega)) | (rw [iMul_i64 (by omega) (by omega)]; omega) | decide)⟩, trivial⟩, ⟨⟨⟨⟨⟨(by first | omega | (rw [adr_eq]; omega) | exact iAnd_nn _ _ | exact iSub_nn _ _ | exact part1_le (by omega) (by first | omega | (simp only [List.length_append]; omega)) | (rw [iMul_i64 (by omega) (by omega)]; omega) | decide), (rfl)⟩, trivial⟩, ⟨(by first | omega | (rw [adr_eq]; omega) | exact iAnd_nn _ _ | exact iSub_nn _ _ | exact part1_le (by omega) (by first | omega | (simp only [List.length_append]; omega)) | (rw [iMul_i64 (by omega) (by omega)]; omega) | decide), (rfl)⟩⟩, trivial⟩, ⟨⟨⟨⟨⟨⟨trivial, (rfl)⟩, ⟨(by first | omega | (rw [adr_eq]; omega) | exact iAnd_nn _ _ | exact iSub_nn _ _ | exact part1_le (by omega) (by first | omega | (simp only [List.length_append]; omega)) | (rw [iMul_i64 (by omega) (by omega)]; omega) | decide), ⟨(by first | omega | (rw [adr_eq]; omega) | exact iAnd_nn _ _ | exact iSub_nn _ _ | exact part1_le (by omega) (by first | omega | (simp only [List.length_append]; omega)) | (rw [iMul_i64 (by omega) (by omega)]; omega) | decide), (by first | omega | (rw [adr_eq]; omega) | exact iAnd_nn _ _ | exact iSub_nn _ _ | exact part1_le (by omega) (by first | omega | (simp only [List.length_append]; omega)) | (rw [iMul_i64 (by omega) (by omega)]; omega) | decide)⟩⟩⟩, (by first | omega | (rw [adr_eq]; omega) | exact iAnd_nn _ _ | exact iSub_nn _ _ | exact part1_le (by omega) (by first | omega | (simp only [List.length_append]; omega)) | (rw [iMul_i64 (by omega) (by omega)]; omega) | decide)⟩, ⟨(rfl), (by first | omega | (rw [adr_eq]; omega) | exact iAnd_nn _ _ | exact iSub_nn _ _ | exact part1_le (by omega) (by first | omega | (simp only [List.length_append]; omega)) | (rw [iMul_i64 (by omega) (by omega)]; omega) | decide)⟩⟩, trivial⟩, ⟨⟨trivial, trivial⟩, trivial⟩⟩⟩⟩⟩) ?_
    refine Tri.seq ?_
    refine Tri.block ?_
    refine Tri.count 96 ((239 - p0.length % 128) % 128) (F49w128l0) (p0.length + 1, p0 ++ [128]) (fun k0 z0 => z0.1 = (p0.length + 1) + 1 * k0) (fun k0 z0 => ([(5, .sc (.sl 64 0 z0.1 1 none)), (0, .sc (.ro .u8 p0)), (1, .sc (.i .i64 128))], [(64, .ints .u8 z0.1 z0.2)])) (by simp) (Sub.of_eq (by kernel_rfl)) ?_
    intro k0 z0 hk0 hz0 hJ0
    refine Tri.seq ?_
    refine Tri.len 64 rfl (fun hl1 => ?_)
    refine Tri.seq_region [(14, .i .i64 ((z0.1 % 128 : Nat) : Int))] none [19, 5, 0, 1] [64] ((True ∧ True) ∧ ((True ∧ True) ∧ ((True ∧ True) ∧ (((128 ≠ (0 : Int)) ∧ ((iRem ((z0.1 : Nat) : Int) 128) = ((z0.1 % 128 : Nat) : Int))) ∧ ((True ∧ True) ∧ ((True ∧ True) ∧ (((8 ≠ (0 : Int)) ∧ True) ∧ ((True ∧ True) ∧ ((True ∧ True) ∧ True)))))))))
        ([(19, .sc (.b ((((z0.1 % 128 : Nat) : Int) : Int) != 112))), (5, .sc (.sl 64 0 z0.1 1 none)), (0, .sc (.ro .u8 p0)), (1, .sc (.i .i64 128))], [(64, .ints .u8 z0.1 z0.2)])
        240 (by kernel_rfl) rfl (by kernel_rfl) (⟨⟨trivial, trivial⟩, ⟨⟨trivial, trivial⟩, ⟨⟨trivial, trivial⟩, ⟨⟨(by first | omega | (rw [adr_eq]; omega) | exact iAnd_nn _ _ | exact iSub_nn _ _ | exact part1_le (by omega) (by first | omega | (simp only [List.length_append]; omega)) | (rw [iMul_i64 (by omega) (by omega)]; omega) | decide), (iRem_nat (a := z0.1) (b := 128))⟩, ⟨⟨trivial, trivial⟩, ⟨⟨trivial, trivial⟩, ⟨⟨(by first | omega | (rw [adr_eq]; omega) | exact iAnd_nn _ _ | exact iSub_nn _ _ | exact part1_le (by omega) (by first | omega | (simp only [List.length_append]; omega)) | (rw [iMul_i64 (by omega) (by omega)]; omega) | decide), trivial⟩, ⟨⟨trivial, trivial⟩, ⟨⟨trivial, trivial⟩, trivial⟩⟩⟩⟩⟩⟩⟩⟩⟩) ?_
    refine Tri.cond (x := ((((z0.1 % 128 : Nat) : Int) : Int) != 112)) (by kernel_rfl) (fun h2 => ?_) (fun h2 => ?_)
    ·
      have h2' := ne_true_i h2
      refine Tri.skip ?_
      change Tri _ _ _ _ _ _
      refine Tri.block ?_
      refine Tri.len 64 rfl (fun hl3 => ?_)
      refine Tri.region' [] none [5, 0, 1] [272] ((True ∧ True) ∧ ((((((0 < 1) ∧ (1 = 1)) ∧ True) ∧ ((1 * 1 ≤ 16777216) ∧ (1 = 1))) ∧ True) ∧ ((((((True ∧ (1 = 1)) ∧ ((0 < 1) ∧ (((z0.1 + 1) * 1 ≤ 140737488355328) ∧ (z0.1 + 1 ≤ 140737488355328)))) ∧ (1 = 1 * 1)) ∧ ((1 = 1) ∧ (0 + z0.1 * 1 = z0.1))) ∧ True) ∧ ((True ∧ True) ∧ True))))
          ([(5, .sc (.sl 272 0 (z0.1 + 1) 1 none)), (0, .sc (.ro .u8 p0)), (1, .sc (.i .i64 128))], [(272, .ints .u8 (z0.1 + 1) (z0.2 ++ [0]))])
          304 (by kernel_rfl) rfl (by kernel_rfl) (⟨⟨trivial, trivial⟩, ⟨⟨⟨⟨⟨(by first | omega | (rw [adr_eq]; omega) | exact iAnd_nn _ _ | exact iSub_nn _ _ | exact part1_le (by omega) (by first | omega | (simp only [List.length_append]; omega)) | (rw [iMul_i64 (by omega) (by omega)]; omega) | decide), (rfl)⟩, trivial⟩, ⟨(by first | omega | (rw [adr_eq]; omega) | exact iAnd_nn _ _ | exact iSub_nn _ _ | exact part1_le (by omega) (by first | omega | (simp only [List.length_append]; omega)) | (rw [iMul_i64 (by omega) (by omega)]; omega) | decide), (rfl)⟩⟩, trivial⟩, ⟨⟨⟨⟨⟨⟨trivial, (rfl)⟩, ⟨(by first | omega | (rw [adr_eq]; omega) | exact iAnd_nn _ _ | exact iSub_nn _ _ | exact part1_le (by omega) (by first | omega | (simp only [List.length_append]; omega)) | (rw [iMul_i64 (by omega) (by omega)]; omega) | decide), ⟨(by first | omega | (rw [adr_eq]; omega) | exact iAnd_nn _ _ | exact iSub_nn _ _ | exact part1_le (by omega) (by first | omega | (simp only [List.length_append]; omega)) | (rw [iMul_i64 (by omega) (by omega)]; omega) | decide), (by first | omega | (rw [adr_eq]; omega) | exact iAnd_nn _ _ | exact iSub_nn _ _ | exact part1_le (by omega) (by first | omega | (simp only [List.length_append]; omega)) | (rw [iMul_i64 (by omega) (by omega)]; omega) | decide)⟩⟩⟩, (by first | omega | (rw [adr_eq]; omega) | exact iAnd_nn _ _ | exact iSub_nn _ _ | exact part1_le (by omega) (by first | omega | (simp only [List.length_append]; omega)) | (rw [iMul_i64 (by omega) (by omega)]; omega) | decide)⟩, ⟨(rfl), (by first | omega | (rw [adr_eq]; omega) | exact iAnd_nn _ _ | exact iSub_nn _ _ | exact part1_le (by omega) (by first | omega | (simp only [List.length_append]; omega)) | (rw [iMul_i64 (by omega) (by omega)]; omega) | decide)⟩⟩, trivial⟩, ⟨⟨trivial, trivial⟩, trivial⟩⟩⟩⟩) ?_
      repeat (refine blkP_normal ?_)
      refine countP_normal (by have h9 := ne_true_i h2; omega) (show z0.1 + 1 = (p0.length + 1) + 1 * (k0 + 1) by omega) ?_
      exact Sub.ren (ns := [(272, 64)]) (kf := [5, 0, 1]) (by kernel_rfl) (by kernel_rfl)
    ·
      have h2' := ne_false_i h2
      refine Tri.exit ?_
      have hend0 : k0 = ((239 - p0.length % 128) % 128) := by (have h9 := ne_false_i h2; omega)
      subst hend0; subst hz0
      change Tri _ _ _ _ _ _
      refine Tri.len 64 rfl (fun hl4 => ?_)
      refine Tri.seq_region [] none [5, 0] [304] ((True ∧ True) ∧ ((True ∧ True) ∧ (((8 ≠ (0 : Int)) ∧ True) ∧ ((True ∧ True) ∧ ((((((((((0 : Int) ≤ 8) ∧ (8 ≤ (140737488355328 : Int))) ∧ (((1 : Nat) : Int) * 8 ≤ 281474976710656)) ∧ (1 = 1)) ∧ ((0 < 1) ∧ (((((itr (F49w128l0) ((239 - p0.length % 128) % 128) (p0.length + 1, p0 ++ [128])).1) + 8) * 1 ≤ 140737488355328) ∧ (((itr (F49w128l0) ((239 - p0.length % 128) % 128) (p0.length + 1, p0 ++ [128])).1) + 8 ≤ 140737488355328)))) ∧ (8 = 8 * 1)) ∧ ((1 = 1) ∧ (0 + ((itr (F49w128l0) ((239 - p0.length % 128) % 128) (p0.length + 1, p0 ++ [128])).1) * 1 = (itr (F49w128l0) ((239 - p0.length % 128) % 128) (p0.length + 1, p0 ++ [128])).1))) ∧ True) ∧ ((True ∧ True) ∧ True))))))
          ([(5, .sc (.sl 304 0 (((itr (F49w128l0) ((239 - p0.length % 128) % 128) (p0.length + 1, p0 ++ [128])).1) + 8) 1 none)), (0, .sc (.ro .u8 p0))], [(304, .ints .u8 (((itr (F49w128l0) ((239 - p0.length % 128) % 128) (p0.length + 1, p0 ++ [128])).1) + 8) (((itr (F49w128l0) ((239 - p0.length % 128) % 128) (p0.length + 1, p0 ++ [128])).2) ++ (List.replicate 8 0)))])
          336 (by kernel_rfl) rfl (by kernel_rfl) (⟨⟨trivial, trivial⟩, ⟨⟨trivial, trivial⟩, ⟨⟨(by first | omega | (rw [adr_eq]; omega) | exact iAnd_nn _ _ | exact iSub_nn _ _ | exact part1_le (by omega) (by first | omega | (simp only [List.length_append]; omega)) | (rw [iMul_i64 (by omega) (by omega)]; omega) | decide), trivial⟩, ⟨⟨trivial, trivial⟩, ⟨⟨⟨⟨⟨⟨⟨⟨(by first | omega | (rw [adr_eq]; omega) | exact iAnd_nn _ _ | exact iSub_nn _ _ | exact part1_le (by omega) (by first | omega | (simp only [List.length_append]; omega)) | (rw [iMul_i64 (by omega) (by omega)]; omega) | decide), (by first | omega | (rw [adr_eq]; omega) | exact iAnd_nn _ _ | exact iSub_nn _ _ | exact part1_le (by omega) (by first | omega | (simp only [List.length_append]; omega)) | (rw [iMul_i64 (by omega) (by omega)]; omega) | decide)⟩, (by first | omega | (rw [adr_eq]; omega) | exact iAnd_nn _ _ | exact iSub_nn _ _ | exact part1_le (by omega) (by first | omega | (simp only [List.length_append]; omega)) | (rw [iMul_i64 (by omega) (by omega)]; omega) | decide)⟩, (rfl)⟩, ⟨(by first | omega | (rw [adr_eq]; omega) | exact iAnd_nn _ _ | exact iSub_nn _ _ | exact part1_le (by omega) (by first | omega | (simp only [List.length_append]; omega)) | (rw [iMul_i64 (by omega) (by omega)]; omega) | decide), ⟨(by first | omega | (rw [adr_eq]; omega) | exact iAnd_nn _ _ | exact iSub_nn _ _ | exact part1_le (by omega) (by first | omega | (simp only [List.length_append]; omega)) | (rw [iMul_i64 (by omega) (by omega)]; omega) | decide), (by first | omega | (rw [adr_eq]; omega) | exact iAnd_nn _ _ | exact iSub_nn _ _ | exact part1_le (by omega) (by first | omega | (simp only [List.length_append]; omega)) | (rw [iMul_i64 (by omega) (by omega)]; omega) | decide)⟩⟩⟩, (by first | omega | (rw [adr_eq]; omega) | exact iAnd_nn _ _ | exact iSub_nn _ _ | exact part1_le (by omega) (by first | omega | (simp only [List.length_append]; omega)) | (rw [iMul_i64 (by omega) (by omega)]; omega) | decide)⟩, ⟨(rfl), (by first | omega | (rw [adr_eq]; omega) | exact iAnd_nn _ _ | exact iSub_nn _ _ | exact part1_le (by omega) (by first | omega | (simp only [List.length_append]; omega)) | (rw [iMul_i64 (by omega) (by omega)]; omega) | decide)⟩⟩, trivial⟩, ⟨⟨trivial, trivial⟩, trivial⟩⟩⟩⟩⟩⟩) ?_
      refine Tri.seq ?_
      refine Tri.seq_region [] none [6, 5, 0] [304] ((True ∧ True) ∧ True)
          ([(6, .sc (.i .i64 7)), (5, .sc (.sl 304 0 (((itr (F49w128l0) ((239 - p0.length % 128) % 128) (p0.length + 1, p0 ++ [128])).1) + 8) 1 none)), (0, .sc (.ro .u8 p0))], [(304, .ints .u8 (((itr (F49w128l0) ((239 - p0.length % 128) % 128) (p0.length + 1, p0 ++ [128])).1) + 8) (((itr (F49w128l0) ((239 - p0.length % 128) % 128) (p0.length + 1, p0 ++ [128])).2) ++ (List.replicate 8 0)))])
          352 (by kernel_rfl) rfl (by kernel_rfl) (⟨⟨trivial, trivial⟩, trivial⟩) ?_
      refine Tri.block ?_
      refine Tri.count 352 8 (F49w128l1 p0) (((itr (F49w128l0) ((239 - p0.length % 128) % 128) (p0.length + 1, p0 ++ [128])).1) + 8, ((itr (F49w128l0) ((239 - p0.length % 128) % 128) (p0.length + 1, p0 ++ [128])).2) ++ (List.replicate 8 0)) (fun k1 z1 => z1.1 = (((itr (F49w128l0) ((239 - p0.length % 128) % 128) (p0.length + 1, p0 ++ [128])).1) + 8) + 1 * k1) (fun k1 z1 => ([(6, .sc (.i .i64 (((8 : Nat) : Int) - 1 - ((k1 : Nat) : Int)))), (5, .sc (.sl 304 0 z1.1 1 none)), (0, .sc (.ro .u8 p0))], [(304, .ints .u8 z1.1 z1.2)])) (by simp) (Sub.of_eq (by kernel_rfl)) ?_
      intro k1 z1 hk1 hz1 hJ1
      refine Tri.seq ?_
      refine Tri.seq_region [] none [29, 6, 5, 0] [304] ((True ∧ True) ∧ ((True ∧ True) ∧ True))
          ([(29, .sc (.b (decide (((((8 : Nat) : Int) - 1 - ((k1 : Nat) : Int)) : Int) ≥ 0)))), (6, .sc (.i .i64 (((8 : Nat) : Int) - 1 - ((k1 : Nat) : Int)))), (5, .sc (.sl 304 0 z1.1 1 none)), (0, .sc (.ro .u8 p0))], [(304, .ints .u8 z1.1 z1.2)])
          384 (by kernel_rfl) rfl (by kernel_rfl) (⟨⟨trivial, trivial⟩, ⟨⟨trivial, trivial⟩, trivial⟩⟩) ?_
      refine Tri.cond (x := (decide (((((8 : Nat) : Int) - 1 - ((k1 : Nat) : Int)) : Int) ≥ 0))) (by kernel_rfl) (fun h5 => ?_) (fun h5 => ?_)
      ·
        have h5' := of_decide_eq_true h5
        refine Tri.skip ?_
        change Tri _ _ _ _ _ _
        refine Tri.seq ?_
        refine Tri.block ?_
        refine Tri.len 304 rfl (fun hl6 => ?_)
        refine Tri.region' [(38, .i .i64 ((8 * (8 - 1 - k1) : Nat) : Int))] none [5, 6, 0] [544] ((True ∧ True) ∧ ((True ∧ True) ∧ ((True ∧ True) ∧ ((True ∧ True) ∧ ((True ∧ True) ∧ ((True ∧ True) ∧ ((True ∧ ((iMul .i64 8 (((8 : Nat) : Int) - 1 - ((k1 : Nat) : Int))) = ((8 * (8 - 1 - k1) : Nat) : Int))) ∧ ((((0 : Int) ≤ ((8 * (8 - 1 - k1) : Nat) : Int)) ∧ True) ∧ ((True ∧ True) ∧ ((((((0 < 1) ∧ (1 = 1)) ∧ True) ∧ ((1 * 1 ≤ 16777216) ∧ (1 = 1))) ∧ True) ∧ ((((((True ∧ (1 = 1)) ∧ ((0 < 1) ∧ (((z1.1 + 1) * 1 ≤ 140737488355328) ∧ (z1.1 + 1 ≤ 140737488355328)))) ∧ (1 = 1 * 1)) ∧ ((1 = 1) ∧ (0 + z1.1 * 1 = z1.1))) ∧ True) ∧ ((True ∧ True) ∧ True))))))))))))
            ([(5, .sc (.sl 544 0 (z1.1 + 1) 1 none)), (6, .sc (.i .i64 (((8 : Nat) : Int) - 1 - ((k1 : Nat) : Int)))), (0, .sc (.ro .u8 p0))], [(544, .ints .u8 (z1.1 + 1) (z1.2 ++ [(IntKind.wrap .u8 (iShr .u64 (iMul .u64 (IntKind.wrap .u64 ((p0.length : Nat) : Int)) 8) ((8 * (8 - 1 - k1) : Nat) : Int)))]))])
            576 (by kernel_rfl) rfl (by kernel_rfl) (⟨⟨trivial, trivial⟩, ⟨⟨trivial, trivial⟩, ⟨⟨trivial, trivial⟩, ⟨⟨trivial, trivial⟩, ⟨⟨trivial, trivial⟩, ⟨⟨trivial, trivial⟩, ⟨⟨trivial, (by rw [dn_nat (by omega)]; exact iMul_nat (a := 8) (b := 8 - 1 - k1) (by omega))⟩, ⟨⟨(by first | omega | (rw [adr_eq]; omega) | exact iAnd_nn _ _ | exact iSub_nn _ _ | exact part1_le (by omega) (by first | omega | (simp only [List.length_append]; omega)) | (rw [iMul_i64 (by omega) (by omega)]; omega) | decide), trivial⟩, ⟨⟨trivial, trivial⟩, ⟨⟨⟨⟨⟨(by first | omega | (rw [adr_eq]; omega) | exact iAnd_nn _ _ | exact iSub_nn _ _ | exact part1_le (by omega) (by first | omega | (simp only [List.length_append]; omega)) | (rw [iMul_i64 (by omega) (by omega)]; omega) | decide), (rfl)⟩, trivial⟩, ⟨(by first | omega | (rw [adr_eq]; omega) | exact iAnd_nn _ _ | exact iSub_nn _ _ | exact part1_le (by omega) (by first | omega | (simp only [List.length_append]; omega)) | (rw [iMul_i64 (by omega) (by omega)]; omega) | decide), (rfl)⟩⟩, trivial⟩, ⟨⟨⟨⟨⟨⟨trivial, (rfl)⟩, ⟨(by first | omega | (rw [adr_eq]; omega) | exact iAnd_nn _ _ | exact iSub_nn _ _ | exact part1_le (by omega) (by first | omega | (simp only [List.length_append]; omega)) | (rw [iMul_i64 (by omega) (by omega)]; omega) | decide), ⟨(by first | omega | (rw [adr_eq]; omega) | exact iAnd_nn _ _ | exact iSub_nn _ _ | exact part1_le (by omega) (by first | omega | (simp only [List.length_append]; omega)) | (rw [iMul_i64 (by omega) (by omega)]; omega) | decide), (by first | omega | (rw [adr_eq]; omega) | exact iAnd_nn _ _ | exact iSub_nn _ _ | exact part1_le (by omega) (by first | omega | (simp only [List.length_append]; omega)) | (rw [iMul_i64 (by omega) (by omega)]; omega) | decide)⟩⟩⟩, (by first | omega | (rw [adr_eq]; omega) | exact iAnd_nn _ _ | exact iSub_nn _ _ | exact part1_le (by omega) (by first | omega | (simp only [List.length_append]; omega)) | (rw [iMul_i64 (by omega) (by omega)]; omega) | decide)⟩, ⟨(rfl), (by first | omega | (rw [adr_eq]; omega) | exact iAnd_nn _ _ | exact iSub_nn _ _ | exact part1_le (by omega) (by first | omega | (simp only [List.length_append]; omega)) | (rw [iMul_i64 (by omega) (by omega)]; omega) | decide)⟩⟩, trivial⟩, ⟨⟨trivial, trivial⟩, trivial⟩⟩⟩⟩⟩⟩⟩⟩⟩⟩⟩⟩) ?_
        change Tri _ _ _ _ _ _
        refine Tri.region' [(31, .i .i64 (((8 : Nat) : Int) - 1 - ((k1 + 1 : Nat) : Int)))] none [6, 5, 0] [544] ((True ∧ True) ∧ ((True ∧ ((iSub .i64 (((8 : Nat) : Int) - 1 - ((k1 : Nat) : Int)) 1) = (((8 : Nat) : Int) - 1 - ((k1 + 1 : Nat) : Int)))) ∧ ((True ∧ True) ∧ True)))
            ([(6, .sc (.i .i64 (((8 : Nat) : Int) - 1 - ((k1 + 1 : Nat) : Int)))), (5, .sc (.sl 544 0 (z1.1 + 1) 1 none)), (0, .sc (.ro .u8 p0))], [(544, .ints .u8 (z1.1 + 1) (z1.2 ++ [(IntKind.wrap .u8 (iShr .u64 (iMul .u64 (IntKind.wrap .u64 ((p0.length : Nat) : Int)) 8) ((8 * (8 - 1 - k1) : Nat) : Int)))]))])
            624 (by kernel_rfl) rfl (by kernel_rfl) (⟨⟨trivial, trivial⟩, ⟨⟨trivial, (iSub_dn (by omega) (by omega))⟩, ⟨⟨trivial, trivial⟩, trivial⟩⟩⟩) ?_
        repeat (refine blkP_normal ?_)
        refine countP_normal (by omega) (show z1.1 + 1 = (((itr (F49w128l0) ((239 - p0.length % 128) % 128) (p0.length + 1, p0 ++ [128])).1) + 8) + 1 * (k1 + 1) by omega) ?_
        exact Sub.ren (ns := [(544, 304)]) (kf := [6, 5, 0]) (by kernel_rfl) (by kernel_rfl)
      ·
        have h5' := of_decide_eq_false h5
        refine Tri.exit ?_
        have hend1 : k1 = 8 := by (have := of_decide_eq_false h5; omega)
        subst hend1; subst hz1
        change Tri _ _ _ _ _ _
        refine Tri.seq_region [] none [4] [304] ((True ∧ True) ∧ ((True ∧ True) ∧ True))
            ([(4, .sc (.sl 304 0 ((itr (F49w128l1 p0) 8 (((itr (F49w128l0) ((239 - p0.length % 128) % 128) (p0.length + 1, p0 ++ [128])).1) + 8, ((itr (F49w128l0) ((239 - p0.length % 128) % 128) (p0.length + 1, p0 ++ [128])).2) ++ (List.replicate 8 0))).1) 1 none))], [(304, .ints .u8 ((itr (F49w128l1 p0) 8 (((itr (F49w128l0) ((239 - p0.length % 128) % 128) (p0.length + 1, p0 ++ [128])).1) + 8, ((itr (F49w128l0) ((239 - p0.length % 128) % 128) (p0.length + 1, p0 ++ [128])).2) ++ (List.replicate 8 0))).1) ((itr (F49w128l1 p0) 8 (((itr (F49w128l0) ((239 - p0.length % 128) % 128) (p0.length + 1, p0 ++ [128])).1) + 8, ((itr (F49w128l0) ((239 - p0.length % 128) % 128) (p0.length + 1, p0 ++ [128])).2) ++ (List.replicate 8 0))).2))])
            416 (by kernel_rfl) rfl (by kernel_rfl) (⟨⟨trivial, trivial⟩, ⟨⟨trivial, trivial⟩, trivial⟩⟩) ?_
        refine Tri.ret ?_
        repeat (first | refine thenP_ret ?_ | refine blkP_ret ?_ | refine countP_ret ?_ | refine joinP_ret ?_)
        exact endP.ret [(304, 0)] (True ∧ True) (by kernel_rfl) (by kernel_rfl) (by kernel_rfl) ⟨trivial, trivial⟩

theorem K49o0 : Known Go.Proofs.Tryd.prog gD 49 ⟨[.ro .u8, .val], 1, (orS S49w64 S49w128)⟩ := Known.or K49w64 K49w128


theorem n49w128 (p0 : List Int) : F49w128n0 p0 = p0.length + 9 + (239 - p0.length % 128) % 128 + 8 := by
  have h0 : ∀ (k : Nat) (z : Nat × List Int), (itr F49w128l0 k z).1 = z.1 + k := by
    intro k z
    induction k with
    | zero => rw [itr_zero]; rfl
    | succ k ih => rw [itr_succ]; show (itr F49w128l0 k z).1 + 1 = _; rw [ih]; omega
  have h1 : ∀ (k : Nat) (z : Nat × List Int), (itr (F49w128l1 p0) k z).1 = z.1 + k := by
    intro k z
    induction k with
    | zero => rw [itr_zero]; rfl
    | succ k ih => rw [itr_succ]; show (itr (F49w128l1 p0) k z).1 + 1 = _; rw [ih]; omega
  unfold F49w128n0
  rw [h1, h0]
  omega


noncomputable def F34l0 (k0 : Nat) (z0 : List Int) : List Int :=
  z0.set k0 (IntKind.wrap .u32 (iShr .u64 (gStarts.getD (0 + k0) 0) 32))

noncomputable def F34l2 (p0 : List Int) (k1 : Nat) (k2 : Nat) (z2 : List Int) : List Int :=
  z2.set (k2 / 4) (iOr .u32 (iShl .u32 (z2.getD (k2 / 4) 0) 8) (IntKind.wrap .u32 ((F49w64 p0).getD (adr (0 + (64 * k1)) k2 1) 0)))

noncomputable def F34l3 (k3 : Nat) (z3 : List Int) : List Int :=
  z3.set (k3 + 16) (iAdd .u32 (iAdd .u32 (iAdd .u32 (z3.getD ((k3 + 16) - 16) 0) (z3.getD ((k3 + 16) - 7) 0)) (iXor .u32 (iXor .u32 (F50 (z3.getD ((k3 + 16) - 15) 0) 25) (F50 (z3.getD ((k3 + 16) - 15) 0) 14)) (iShr .u32 (z3.getD ((k3 + 16) - 15) 0) 3))) (iXor .u32 (iXor .u32 (F50 (z3.getD ((k3 + 16) - 2) 0) 15) (F50 (z3.getD ((k3 + 16) - 2) 0) 13)) (iShr .u32 (z3.getD ((k3 + 16) - 2) 0) 10)))

noncomputable def F34l4 (p0 : List Int) (k1 : Nat) (k4 : Nat) (z4 : Int × Int × Int × Int × Int × Int × Int × Int) : Int × Int × Int × Int × Int × Int × Int × Int :=
  (z4.2.1, z4.2.2.1, z4.2.2.2.1, (iAdd .u32 z4.2.2.2.2.1 (iAdd .u32 (iAdd .u32 (iAdd .u32 (iAdd .u32 z4.1 (iXor .u32 (iXor .u32 (F50 z4.2.2.2.1 26) (F50 z4.2.2.2.1 21)) (F50 z4.2.2.2.1 7))) (iXor .u32 (iAnd .u32 z4.2.2.2.1 z4.2.2.1) (iAnd .u32 (iNot .u32 z4.2.2.2.1) z4.2.1))) (IntKind.wrap .u32 (iShr .u64 (gSteps.getD (0 + k4) 0) 32))) ((itr (F34l3) 48 (itr (F34l2 p0 k1) 64 [0, 0, 0, 0, 0, 0, 0, 0, 0, 0, 0, 0, 0, 0, 0, 0, 0, 0, 0, 0, 0, 0, 0, 0, 0, 0, 0, 0, 0, 0, 0, 0, 0, 0, 0, 0, 0, 0, 0, 0, 0, 0, 0, 0, 0, 0, 0, 0, 0, 0, 0, 0, 0, 0, 0, 0, 0, 0, 0, 0, 0, 0, 0, 0])).getD k4 0))), z4.2.2.2.2.2.1, z4.2.2.2.2.2.2.1, z4.2.2.2.2.2.2.2, (iAdd .u32 (iAdd .u32 (iAdd .u32 (iAdd .u32 (iAdd .u32 z4.1 (iXor .u32 (iXor .u32 (F50 z4.2.2.2.1 26) (F50 z4.2.2.2.1 21)) (F50 z4.2.2.2.1 7))) (iXor .u32 (iAnd .u32 z4.2.2.2.1 z4.2.2.1) (iAnd .u32 (iNot .u32 z4.2.2.2.1) z4.2.1))) (IntKind.wrap .u32 (iShr .u64 (gSteps.getD (0 + k4) 0) 32))) ((itr (F34l3) 48 (itr (F34l2 p0 k1) 64 [0, 0, 0, 0, 0, 0, 0, 0, 0, 0, 0, 0, 0, 0, 0, 0, 0, 0, 0, 0, 0, 0, 0, 0, 0, 0, 0, 0, 0, 0, 0, 0, 0, 0, 0, 0, 0, 0, 0, 0, 0, 0, 0, 0, 0, 0, 0, 0, 0, 0, 0, 0, 0, 0, 0, 0, 0, 0, 0, 0, 0, 0, 0, 0])).getD k4 0)) (iAdd .u32 (iXor .u32 (iXor .u32 (F50 z4.2.2.2.2.2.2.2 30) (F50 z4.2.2.2.2.2.2.2 19)) (F50 z4.2.2.2.2.2.2.2 10)) (iXor .u32 (iXor .u32 (iAnd .u32 z4.2.2.2.2.2.2.2 z4.2.2.2.2.2.2.1) (iAnd .u32 z4.2.2.2.2.2.2.2 z4.2.2.2.2.2.1)) (iAnd .u32 z4.2.2.2.2.2.2.1 z4.2.2.2.2.2.1)))))

noncomputable def F34l5 (p0 : List Int) (k1 : Nat) (z1 : List Int) (k5 : Nat) (z5 : List Int) : List Int :=
  z5.set k5 (iAdd .u32 (z5.getD k5 0) ([(itr (F34l4 p0 k1) 64 (z1.getD 7 0, z1.getD 6 0, z1.getD 5 0, z1.getD 4 0, z1.getD 3 0, z1.getD 2 0, z1.getD 1 0, z1.getD 0 0)).2.2.2.2.2.2.2, (itr (F34l4 p0 k1) 64 (z1.getD 7 0, z1.getD 6 0, z1.getD 5 0, z1.getD 4 0, z1.getD 3 0, z1.getD 2 0, z1.getD 1 0, z1.getD 0 0)).2.2.2.2.2.2.1, (itr (F34l4 p0 k1) 64 (z1.getD 7 0, z1.getD 6 0, z1.getD 5 0, z1.getD 4 0, z1.getD 3 0, z1.getD 2 0, z1.getD 1 0, z1.getD 0 0)).2.2.2.2.2.1, (itr (F34l4 p0 k1) 64 (z1.getD 7 0, z1.getD 6 0, z1.getD 5 0, z1.getD 4 0, z1.getD 3 0, z1.getD 2 0, z1.getD 1 0, z1.getD 0 0)).2.2.2.2.1, (itr (F34l4 p0 k1) 64 (z1.getD 7 0, z1.getD 6 0, z1.getD 5 0, z1.getD 4 0, z1.getD 3 0, z1.getD 2 0, z1.getD 1 0, z1.getD 0 0)).2.2.2.1, (itr (F34l4 p0 k1) 64 (z1.getD 7 0, z1.getD 6 0, z1.getD 5 0, z1.getD 4 0, z1.getD 3 0, z1.getD 2 0, z1.getD 1 0, z1.getD 0 0)).2.2.1, (itr (F34l4 p0 k1) 64 (z1.getD 7 0, z1.getD 6 0, z1.getD 5 0, z1.getD 4 0, z1.getD 3 0, z1.getD 2 0, z1.getD 1 0, z1.getD 0 0)).2.1, (itr (F34l4 p0 k1) 64 (z1.getD 7 0, z1.getD 6 0, z1.getD 5 0, z1.getD 4 0, z1.getD 3 0, z1.getD 2 0, z1.getD 1 0, z1.getD 0 0)).1].getD k5 0))

noncomputable def F34l1 (p0 : List Int) (k1 : Nat) (z1 : List Int) : List Int :=
  (itr (F34l5 p0 k1 z1) 8 z1)

noncomputable def F34l6 (p0 : List Int) (k6 : Nat) (z6 : List Int) : List Int :=
  z6.set k6 (IntKind.wrap .u8 (iShr .u32 ((itr (F34l1 p0) ((F49w64n0 p0) / 64) (itr (F34l0) 8 [0, 0, 0, 0, 0, 0, 0, 0])).getD (k6 / 4) 0) ((24 - (8 * (k6 % 4)) : Nat) : Int)))

noncomputable def F34 (p0 : List Int) : List Int :=
  (itr (F34l6 p0) 32 [0, 0, 0, 0, 0, 0, 0, 0, 0, 0, 0, 0, 0, 0, 0, 0, 0, 0, 0, 0, 0, 0, 0, 0, 0, 0, 0, 0, 0, 0, 0, 0])

noncomputable def S34 : List AV → Option (Prop × Ret)
  | [.sc (.ro .u8 p0)] => some (p0.length ≤ 100000000, ⟨.ints .u8 32 (F34 p0), []⟩)
  | _ => none

noncomputable def B34 : Bs := { P := Go.Proofs.Tryd.prog, G := gD, tab := tabOf [(49, ⟨[.ro .u8, .val], 1, (orS S49w64 S49w128)⟩), (50, ⟨[.val, .val], 0, S50⟩)], n := 221 }

theorem B34.ok : B34.Ok := ⟨tabOk (P := Go.Proofs.Tryd.prog) (G := gD) (l := [(49, ⟨[.ro .u8, .val], 1, (orS S49w64 S49w128)⟩), (50, ⟨[.val, .val], 0, S50⟩)]) (And.intro K49o0 (And.intro K50 True.intro)), mixed⟩

theorem K34 : Known Go.Proofs.Tryd.prog gD 34 ⟨[.ro .u8], 0, S34⟩ := by
  refine Known.walk (B := B34) (fn := Go.Proofs.Tryd.f34) B34.ok (by kernel_rfl) rfl (by kernel_rfl) (by kernel_rfl) (by decide) ?_ ?_
  · intro vs C r h
    simp only at h
    unfold S34 at h
    split at h
    · cases h; rfl
    · cases h
  · intro E args C r h hC hlen
    simp only at h
    unfold S34 at h
    split at h
    rotate_left
    · cases h
    rename_i p0
    cases h
    simp only [lens] at hlen
    have hp := n49w64 p0
    have hg1 : gStarts.length = 8 := rfl
    have hg2 : gSteps.length = 80 := rfl
    refine ⟨show 1 ≤ 221 from by decide, ?_⟩
    refine Tri.sub (Sub.of_eq (show _ = ([(0, .sc (.ro .u8 p0))], []) from rfl)) ?_
    refine Tri.seq_region [] none [2, 0] [0] ((True ∧ True) ∧ True)
        ([(2, .sc (.p 0 0)), (0, .sc (.ro .u8 p0))], [(0, .ints .u8 32 [0, 0, 0, 0, 0, 0, 0, 0, 0, 0, 0, 0, 0, 0, 0, 0, 0, 0, 0, 0, 0, 0, 0, 0, 0, 0, 0, 0, 0, 0, 0, 0])])
        16 (by kernel_rfl) rfl (by kernel_rfl) (⟨⟨trivial, trivial⟩, trivial⟩) ?_
    refine Tri.seq_region [] none [3, 2, 0] [16, 0] ((True ∧ True) ∧ True)
        ([(3, .sc (.p 16 0)), (2, .sc (.p 0 0)), (0, .sc (.ro .u8 p0))], [(16, .ints .u32 8 [0, 0, 0, 0, 0, 0, 0, 0]), (0, .ints .u8 32 [0, 0, 0, 0, 0, 0, 0, 0, 0, 0, 0, 0, 0, 0, 0, 0, 0, 0, 0, 0, 0, 0, 0, 0, 0, 0, 0, 0, 0, 0, 0, 0])])
        32 (by kernel_rfl) rfl (by kernel_rfl) (⟨⟨trivial, trivial⟩, trivial⟩) ?_
    refine Tri.seq ?_
    refine Tri.seq_region [] none [26, 3, 2, 0] [16, 0] ((True ∧ True) ∧ True)
        ([(26, .sc (.i .i64 0)), (3, .sc (.p 16 0)), (2, .sc (.p 0 0)), (0, .sc (.ro .u8 p0))], [(16, .ints .u32 8 [0, 0, 0, 0, 0, 0, 0, 0]), (0, .ints .u8 32 [0, 0, 0, 0, 0, 0, 0, 0, 0, 0, 0, 0, 0, 0, 0, 0, 0, 0, 0, 0, 0, 0, 0, 0, 0, 0, 0, 0, 0, 0, 0, 0])])
        48 (by kernel_rfl) rfl (by kernel_rfl) (⟨⟨trivial, trivial⟩, trivial⟩) ?_
    refine Tri.block ?_
    refine Tri.count 48 8 (F34l0) [0, 0, 0, 0, 0, 0, 0, 0] (fun k0 z0 => True) (fun k0 z0 => ([(26, .sc (.i .i64 ((k0 : Nat) : Int))), (3, .sc (.p 16 0)), (2, .sc (.p 0 0)), (0, .sc (.ro .u8 p0))], [(16, .ints .u32 8 z0), (0, .ints .u8 32 [0, 0, 0, 0, 0, 0, 0, 0, 0, 0, 0, 0, 0, 0, 0, 0, 0, 0, 0, 0, 0, 0, 0, 0, 0, 0, 0, 0, 0, 0, 0, 0])])) trivial (Sub.of_eq (by kernel_rfl)) ?_
    intro k0 z0 hk0 hz0 hJ0
    refine Tri.seq_region [] none [27, 26, 3, 2, 0] [16, 0] ((True ∧ True) ∧ True)
        ([(27, .sc (.b (decide ((((k0 : Nat) : Int) : Int) < 8)))), (26, .sc (.i .i64 ((k0 : Nat) : Int))), (3, .sc (.p 16 0)), (2, .sc (.p 0 0)), (0, .sc (.ro .u8 p0))], [(16, .ints .u32 8 z0), (0, .ints .u8 32 [0, 0, 0, 0, 0, 0, 0, 0, 0, 0, 0, 0, 0, 0, 0, 0, 0, 0, 0, 0, 0, 0, 0, 0, 0, 0, 0, 0, 0, 0, 0, 0])])
        64 (by kernel_rfl) rfl (by kernel_rfl) (⟨⟨trivial, trivial⟩, trivial⟩) ?_
    refine Tri.seq ?_
    refine Tri.cond (x := (decide ((((k0 : Nat) : Int) : Int) < 8))) (by kernel_rfl) (fun h1 => ?_) (fun h1 => ?_)
    ·
      have h1' := of_decide_eq_true h1
      refine Tri.skip ?_
      change Tri _ _ _ _ _ _
      refine Tri.seq ?_
      refine Tri.block ?_
      refine Tri.seq_region [] none [4, 26, 3, 2, 0] [16, 0] ((True ∧ True) ∧ ((True ∧ True) ∧ True))
          ([(4, .sc (.i .i64 ((k0 : Nat) : Int))), (26, .sc (.i .i64 ((k0 : Nat) : Int))), (3, .sc (.p 16 0)), (2, .sc (.p 0 0)), (0, .sc (.ro .u8 p0))], [(16, .ints .u32 8 z0), (0, .ints .u8 32 [0, 0, 0, 0, 0, 0, 0, 0, 0, 0, 0, 0, 0, 0, 0, 0, 0, 0, 0, 0, 0, 0, 0, 0, 0, 0, 0, 0, 0, 0, 0, 0])])
          96 (by kernel_rfl) rfl (by kernel_rfl) (⟨⟨trivial, trivial⟩, ⟨⟨trivial, trivial⟩, trivial⟩⟩) ?_
      refine Tri.len 16 rfl (fun hl2 => ?_)
      refine Tri.region' [] none [26, 3, 2, 0] [16, 0] ((True ∧ True) ∧ ((True ∧ True) ∧ ((((0 : Int) ≤ ((k0 : Nat) : Int) ∧ ((k0 : Nat) : Int) < ((8 : Nat) : Int)) ∧ True) ∧ (((0 + k0 < gStarts.length) ∧ True) ∧ ((((0 : Int) ≤ 32) ∧ True) ∧ ((True ∧ True) ∧ ((((0 : Int) ≤ ((k0 : Nat) : Int) ∧ ((k0 : Nat) : Int) < ((8 : Nat) : Int)) ∧ True) ∧ ((((k0 < 8) ∧ (1 = 1)) ∧ True) ∧ True))))))))
          ([(26, .sc (.i .i64 ((k0 : Nat) : Int))), (3, .sc (.p 16 0)), (2, .sc (.p 0 0)), (0, .sc (.ro .u8 p0))], [(16, .ints .u32 8 (z0.set k0 (IntKind.wrap .u32 (iShr .u64 (gStarts.getD (0 + k0) 0) 32)))), (0, .ints .u8 32 [0, 0, 0, 0, 0, 0, 0, 0, 0, 0, 0, 0, 0, 0, 0, 0, 0, 0, 0, 0, 0, 0, 0, 0, 0, 0, 0, 0, 0, 0, 0, 0])])
          224 (by kernel_rfl) rfl (by kernel_rfl) (⟨⟨trivial, trivial⟩, ⟨⟨trivial, trivial⟩, ⟨⟨(by first | omega | (rw [adr_eq]; omega) | exact iAnd_nn _ _ | exact iSub_nn _ _ | exact part1_le (by omega) (by first | omega | (simp only [List.length_append]; omega)) | (rw [iMul_i64 (by omega) (by omega)]; omega) | decide), trivial⟩, ⟨⟨(by first | omega | (rw [adr_eq]; omega) | exact iAnd_nn _ _ | exact iSub_nn _ _ | exact part1_le (by omega) (by first | omega | (simp only [List.length_append]; omega)) | (rw [iMul_i64 (by omega) (by omega)]; omega) | decide), trivial⟩, ⟨⟨(by first | omega | (rw [adr_eq]; omega) | exact iAnd_nn _ _ | exact iSub_nn _ _ | exact part1_le (by omega) (by first | omega | (simp only [List.length_append]; omega)) | (rw [iMul_i64 (by omega) (by omega)]; omega) | decide), trivial⟩, ⟨⟨trivial, trivial⟩, ⟨⟨(by first | omega | (rw [adr_eq]; omega) | exact iAnd_nn _ _ | exact iSub_nn _ _ | exact part1_le (by omega) (by first | omega | (simp only [List.length_append]; omega)) | (rw [iMul_i64 (by omega) (by omega)]; omega) | decide), trivial⟩, ⟨⟨⟨(by first | omega | (rw [adr_eq]; omega) | exact iAnd_nn _ _ | exact iSub_nn _ _ | exact part1_le (by omega) (by first | omega | (simp only [List.length_append]; omega)) | (rw [iMul_i64 (by omega) (by omega)]; omega) | decide), (rfl)⟩, trivial⟩, trivial⟩⟩⟩⟩⟩⟩⟩⟩) ?_
      change Tri _ _ _ _ _ _
      refine Tri.region' [(36, .i .i64 ((k0 + 1 : Nat) : Int))] none [26, 3, 2, 0] [16, 0] ((True ∧ ((iAdd .i64 ((k0 : Nat) : Int) 1) = ((k0 + 1 : Nat) : Int))) ∧ ((True ∧ True) ∧ True))
          ([(26, .sc (.i .i64 ((k0 + 1 : Nat) : Int))), (3, .sc (.p 16 0)), (2, .sc (.p 0 0)), (0, .sc (.ro .u8 p0))], [(16, .ints .u32 8 (z0.set k0 (IntKind.wrap .u32 (iShr .u64 (gStarts.getD (0 + k0) 0) 32)))), (0, .ints .u8 32 [0, 0, 0, 0, 0, 0, 0, 0, 0, 0, 0, 0, 0, 0, 0, 0, 0, 0, 0, 0, 0, 0, 0, 0, 0, 0, 0, 0, 0, 0, 0, 0])])
          256 (by kernel_rfl) rfl (by kernel_rfl) (⟨⟨trivial, (iAdd_nat (a := k0) (b := 1) (by omega))⟩, ⟨⟨trivial, trivial⟩, trivial⟩⟩) ?_
      repeat (refine blkP_normal ?_)
      refine countP_normal (by omega) trivial ?_
      exact Sub.ren (ns := [(16, 16), (0, 0)]) (kf := [26, 3, 2, 0]) (by kernel_rfl) (by kernel_rfl)
    ·
      have h1' := of_decide_eq_false h1
      refine Tri.exit ?_
      have hend0 : k0 = 8 := by (have := of_decide_eq_false h1; omega)
      subst hend0; subst hz0
      change Tri _ _ _ _ _ _
      refine Tri.seq ?_
      refine Tri.len 16 rfl (fun hl3 => ?_)
      refine Tri.seq_region [] none [5, 3, 2] [80, 16, 0] ((True ∧ True) ∧ (((True ∧ (p0.length ≤ 1000000000)) ∧ True) ∧ ((True ∧ True) ∧ True)))
          ([(5, .sc (.sl 80 0 (F49w64n0 p0) 1 none)), (3, .sc (.p 16 0)), (2, .sc (.p 0 0))], [(80, .ints .u8 (F49w64n0 p0) (F49w64 p0)), (16, .ints .u32 8 (itr (F34l0) 8 [0, 0, 0, 0, 0, 0, 0, 0])), (0, .ints .u8 32 [0, 0, 0, 0, 0, 0, 0, 0, 0, 0, 0, 0, 0, 0, 0, 0, 0, 0, 0, 0, 0, 0, 0, 0, 0, 0, 0, 0, 0, 0, 0, 0])])
          112 (by kernel_rfl) rfl (by kernel_rfl) (⟨⟨trivial, trivial⟩, ⟨⟨⟨trivial, (by first | omega | (rw [adr_eq]; omega) | exact iAnd_nn _ _ | exact iSub_nn _ _ | exact part1_le (by omega) (by first | omega | (simp only [List.length_append]; omega)) | (rw [iMul_i64 (by omega) (by omega)]; omega) | decide)⟩, trivial⟩, ⟨⟨trivial, trivial⟩, trivial⟩⟩⟩) ?_
      refine Tri.block ?_
      refine Tri.count 112 ((F49w64n0 p0) / 64) (F34l1 p0) (itr (F34l0) 8 [0, 0, 0, 0, 0, 0, 0, 0]) (fun k1 z1 => True) (fun k1 z1 => ([(5, .sc (.sl 80 (0 + (64 * k1)) ((F49w64n0 p0) - (64 * k1)) 1 none)), (3, .sc (.p 16 0)), (2, .sc (.p 0 0))], [(80, .ints .u8 (F49w64n0 p0) (F49w64 p0)), (16, .ints .u32 8 z1), (0, .ints .u8 32 [0, 0, 0, 0, 0, 0, 0, 0, 0, 0, 0, 0, 0, 0, 0, 0, 0, 0, 0, 0, 0, 0, 0, 0, 0, 0, 0, 0, 0, 0, 0, 0])])) trivial (Sub.of_eq (by kernel_rfl)) ?_
      intro k1 z1 hk1 hz1 hJ1
      refine Tri.seq ?_
      refine Tri.seq_region [] none [41, 5, 3, 2] [80, 16, 0] ((True ∧ True) ∧ ((True ∧ True) ∧ ((True ∧ True) ∧ True)))
          ([(41, .sc (.b (decide (((((F49w64n0 p0) - (64 * k1) : Nat) : Int) : Int) > 0)))), (5, .sc (.sl 80 (0 + (64 * k1)) ((F49w64n0 p0) - (64 * k1)) 1 none)), (3, .sc (.p 16 0)), (2, .sc (.p 0 0))], [(80, .ints .u8 (F49w64n0 p0) (F49w64 p0)), (16, .ints .u32 8 z1), (0, .ints .u8 32 [0, 0, 0, 0, 0, 0, 0, 0, 0, 0, 0, 0, 0, 0, 0, 0, 0, 0, 0, 0, 0, 0, 0, 0, 0, 0, 0, 0, 0, 0, 0, 0])])
          160 (by kernel_rfl) rfl (by kernel_rfl) (⟨⟨trivial, trivial⟩, ⟨⟨trivial, trivial⟩, ⟨⟨trivial, trivial⟩, trivial⟩⟩⟩) ?_
      refine Tri.cond (x := (decide (((((F49w64n0 p0) - (64 * k1) : Nat) : Int) : Int) > 0))) (by kernel_rfl) (fun h4 => ?_) (fun h4 => ?_)
      ·
        have h4' := of_decide_eq_true h4
        refine Tri.skip ?_
        change Tri _ _ _ _ _ _
        refine Tri.seq ?_
        refine Tri.block ?_
        refine Tri.seq_region [] none [6, 5, 3, 2] [160, 80, 16, 0] ((True ∧ True) ∧ True)
            ([(6, .sc (.p 160 0)), (5, .sc (.sl 80 (0 + (64 * k1)) ((F49w64n0 p0) - (64 * k1)) 1 none)), (3, .sc (.p 16 0)), (2, .sc (.p 0 0))], [(160, .ints .u32 64 [0, 0, 0, 0, 0, 0, 0, 0, 0, 0, 0, 0, 0, 0, 0, 0, 0, 0, 0, 0, 0, 0, 0, 0, 0, 0, 0, 0, 0, 0, 0, 0, 0, 0, 0, 0, 0, 0, 0, 0, 0, 0, 0, 0, 0, 0, 0, 0, 0, 0, 0, 0, 0, 0, 0, 0, 0, 0, 0, 0, 0, 0, 0, 0]), (80, .ints .u8 (F49w64n0 p0) (F49w64 p0)), (16, .ints .u32 8 z1), (0, .ints .u8 32 [0, 0, 0, 0, 0, 0, 0, 0, 0, 0, 0, 0, 0, 0, 0, 0, 0, 0, 0, 0, 0, 0, 0, 0, 0, 0, 0, 0, 0, 0, 0, 0])])
            176 (by kernel_rfl) rfl (by kernel_rfl) (⟨⟨trivial, trivial⟩, trivial⟩) ?_
        refine Tri.seq ?_
        refine Tri.seq_region [] none [44, 6, 5, 3, 2] [160, 80, 16, 0] ((True ∧ True) ∧ True)
            ([(44, .sc (.i .i64 0)), (6, .sc (.p 160 0)), (5, .sc (.sl 80 (0 + (64 * k1)) ((F49w64n0 p0) - (64 * k1)) 1 none)), (3, .sc (.p 16 0)), (2, .sc (.p 0 0))], [(160, .ints .u32 64 [0, 0, 0, 0, 0, 0, 0, 0, 0, 0, 0, 0, 0, 0, 0, 0, 0, 0, 0, 0, 0, 0, 0, 0, 0, 0, 0, 0, 0, 0, 0, 0, 0, 0, 0, 0, 0, 0, 0, 0, 0, 0, 0, 0, 0, 0, 0, 0, 0, 0, 0, 0, 0, 0, 0, 0, 0, 0, 0, 0, 0, 0, 0, 0]), (80, .ints .u8 (F49w64n0 p0) (F49w64 p0)), (16, .ints .u32 8 z1), (0, .ints .u8 32 [0, 0, 0, 0, 0, 0, 0, 0, 0, 0, 0, 0, 0, 0, 0, 0, 0, 0, 0, 0, 0, 0, 0, 0, 0, 0, 0, 0, 0, 0, 0, 0])])
            192 (by kernel_rfl) rfl (by kernel_rfl) (⟨⟨trivial, trivial⟩, trivial⟩) ?_
        refine Tri.block ?_
        refine Tri.count 192 64 (F34l2 p0 k1) [0, 0, 0, 0, 0, 0, 0, 0, 0, 0, 0, 0, 0, 0, 0, 0, 0, 0, 0, 0, 0, 0, 0, 0, 0, 0, 0, 0, 0, 0, 0, 0, 0, 0, 0, 0, 0, 0, 0, 0, 0, 0, 0, 0, 0, 0, 0, 0, 0, 0, 0, 0, 0, 0, 0, 0, 0, 0, 0, 0, 0, 0, 0, 0] (fun k2 z2 => True) (fun k2 z2 => ([(44, .sc (.i .i64 ((k2 : Nat) : Int))), (6, .sc (.p 160 0)), (5, .sc (.sl 80 (0 + (64 * k1)) ((F49w64n0 p0) - (64 * k1)) 1 none)), (3, .sc (.p 16 0)), (2, .sc (.p 0 0))], [(160, .ints .u32 64 z2), (80, .ints .u8 (F49w64n0 p0) (F49w64 p0)), (16, .ints .u32 8 z1), (0, .ints .u8 32 [0, 0, 0, 0, 0, 0, 0, 0, 0, 0, 0, 0, 0, 0, 0, 0, 0, 0, 0, 0, 0, 0, 0, 0, 0, 0, 0, 0, 0, 0, 0, 0])])) trivial (Sub.of_eq (by kernel_rfl)) ?_
        intro k2 z2 hk2 hz2 hJ2
        refine Tri.seq_region [] none [45, 44, 6, 5, 3, 2] [160, 80, 16, 0] ((True ∧ True) ∧ True)
            ([(45, .sc (.b (decide ((((k2 : Nat) : Int) : Int) < 64)))), (44, .sc (.i .i64 ((k2 : Nat) : Int))), (6, .sc (.p 160 0)), (5, .sc (.sl 80 (0 + (64 * k1)) ((F49w64n0 p0) - (64 * k1)) 1 none)), (3, .sc (.p 16 0)), (2, .sc (.p 0 0))], [(160, .ints .u32 64 z2), (80, .ints .u8 (F49w64n0 p0) (F49w64 p0)), (16, .ints .u32 8 z1), (0, .ints .u8 32 [0, 0, 0, 0, 0, 0, 0, 0, 0, 0, 0, 0, 0, 0, 0, 0, 0, 0, 0, 0, 0, 0, 0, 0, 0, 0, 0, 0, 0, 0, 0, 0])])
            208 (by kernel_rfl) rfl (by kernel_rfl) (⟨⟨trivial, trivial⟩, trivial⟩) ?_
        refine Tri.seq ?_
        refine Tri.cond (x := (decide ((((k2 : Nat) : Int) : Int) < 64))) (by kernel_rfl) (fun h5 => ?_) (fun h5 => ?_)
        ·
          have h5' := of_decide_eq_true h5
          refine Tri.skip ?_
          change Tri _ _ _ _ _ _
          refine Tri.seq ?_
          refine Tri.block ?_
          refine Tri.seq_region [] none [7, 44, 6, 5, 3, 2] [160, 80, 16, 0] ((True ∧ True) ∧ ((True ∧ True) ∧ True))
              ([(7, .sc (.i .i64 ((k2 : Nat) : Int))), (44, .sc (.i .i64 ((k2 : Nat) : Int))), (6, .sc (.p 160 0)), (5, .sc (.sl 80 (0 + (64 * k1)) ((F49w64n0 p0) - (64 * k1)) 1 none)), (3, .sc (.p 16 0)), (2, .sc (.p 0 0))], [(160, .ints .u32 64 z2), (80, .ints .u8 (F49w64n0 p0) (F49w64 p0)), (16, .ints .u32 8 z1), (0, .ints .u8 32 [0, 0, 0, 0, 0, 0, 0, 0, 0, 0, 0, 0, 0, 0, 0, 0, 0, 0, 0, 0, 0, 0, 0, 0, 0, 0, 0, 0, 0, 0, 0, 0])])
              240 (by kernel_rfl) rfl (by kernel_rfl) (⟨⟨trivial, trivial⟩, ⟨⟨trivial, trivial⟩, trivial⟩⟩) ?_
          refine Tri.len 160 rfl (fun hl6 => ?_)
          refine Tri.len 80 rfl (fun hl7 => ?_)
          refine Tri.len 16 rfl (fun hl8 => ?_)
          refine Tri.region' [(48, .i .i64 ((k2 / 4 : Nat) : Int)), (50, .i .i64 ((k2 / 4 : Nat) : Int))] (some [0, 1, 0, 4, 12, 28, 60, 0, 0, 384, 896, 1920, 4092, 8191, 16383]) [44, 6, 5, 3, 2] [160, 80, 16, 0] ((True ∧ True) ∧ (((4 ≠ (0 : Int)) ∧ ((iQuo .i64 ((k2 : Nat) : Int) 4) = ((k2 / 4 : Nat) : Int))) ∧ ((True ∧ True) ∧ (((4 ≠ (0 : Int)) ∧ ((iQuo .i64 ((k2 : Nat) : Int) 4) = ((k2 / 4 : Nat) : Int))) ∧ ((((0 : Int) ≤ ((k2 / 4 : Nat) : Int) ∧ ((k2 / 4 : Nat) : Int) < ((64 : Nat) : Int)) ∧ True) ∧ (((k2 / 4 < 64) ∧ True) ∧ ((((0 : Int) ≤ 8) ∧ True) ∧ ((True ∧ True) ∧ ((True ∧ True) ∧ ((((0 : Int) ≤ ((k2 : Nat) : Int) ∧ ((k2 : Nat) : Int) < (((F49w64n0 p0) - (64 * k1) : Nat) : Int)) ∧ True) ∧ (((adr (0 + (64 * k1)) k2 1 < (F49w64n0 p0)) ∧ True) ∧ ((True ∧ True) ∧ ((True ∧ True) ∧ ((((0 : Int) ≤ ((k2 / 4 : Nat) : Int) ∧ ((k2 / 4 : Nat) : Int) < ((64 : Nat) : Int)) ∧ True) ∧ ((((k2 / 4 < 64) ∧ (1 = 1)) ∧ True) ∧ True)))))))))))))))
              ([(44, .sc (.i .i64 ((k2 : Nat) : Int))), (6, .sc (.p 160 0)), (5, .sc (.sl 80 (0 + (64 * k1)) ((F49w64n0 p0) - (64 * k1)) 1 none)), (3, .sc (.p 16 0)), (2, .sc (.p 0 0))], [(160, .ints .u32 64 (z2.set (k2 / 4) (iOr .u32 (iShl .u32 (z2.getD (k2 / 4) 0) 8) (IntKind.wrap .u32 ((F49w64 p0).getD (adr (0 + (64 * k1)) k2 1) 0))))), (80, .ints .u8 (F49w64n0 p0) (F49w64 p0)), (16, .ints .u32 8 z1), (0, .ints .u8 32 [0, 0, 0, 0, 0, 0, 0, 0, 0, 0, 0, 0, 0, 0, 0, 0, 0, 0, 0, 0, 0, 0, 0, 0, 0, 0, 0, 0, 0, 0, 0, 0])])
              480 (by kernel_rfl) rfl (by kernel_rfl) (⟨⟨trivial, trivial⟩, ⟨⟨(by first | omega | (rw [adr_eq]; omega) | exact iAnd_nn _ _ | exact iSub_nn _ _ | exact part1_le (by omega) (by first | omega | (simp only [List.length_append]; omega)) | (rw [iMul_i64 (by omega) (by omega)]; omega) | decide), (iQuo_nat (a := k2) (b := 4) (by omega))⟩, ⟨⟨trivial, trivial⟩, ⟨⟨(by first | omega | (rw [adr_eq]; omega) | exact iAnd_nn _ _ | exact iSub_nn _ _ | exact part1_le (by omega) (by first | omega | (simp only [List.length_append]; omega)) | (rw [iMul_i64 (by omega) (by omega)]; omega) | decide), (iQuo_nat (a := k2) (b := 4) (by omega))⟩, ⟨⟨(by first | omega | (rw [adr_eq]; omega) | exact iAnd_nn _ _ | exact iSub_nn _ _ | exact part1_le (by omega) (by first | omega | (simp only [List.length_append]; omega)) | (rw [iMul_i64 (by omega) (by omega)]; omega) | decide), trivial⟩, ⟨⟨(by first | omega | (rw [adr_eq]; omega) | exact iAnd_nn _ _ | exact iSub_nn _ _ | exact part1_le (by omega) (by first | omega | (simp only [List.length_append]; omega)) | (rw [iMul_i64 (by omega) (by omega)]; omega) | decide), trivial⟩, ⟨⟨(by first | omega | (rw [adr_eq]; omega) | exact iAnd_nn _ _ | exact iSub_nn _ _ | exact part1_le (by omega) (by first | omega | (simp only [List.length_append]; omega)) | (rw [iMul_i64 (by omega) (by omega)]; omega) | decide), trivial⟩, ⟨⟨trivial, trivial⟩, ⟨⟨trivial, trivial⟩, ⟨⟨(by first | omega | (rw [adr_eq]; omega) | exact iAnd_nn _ _ | exact iSub_nn _ _ | exact part1_le (by omega) (by first | omega | (simp only [List.length_append]; omega)) | (rw [iMul_i64 (by omega) (by omega)]; omega) | decide), trivial⟩, ⟨⟨(by first | omega | (rw [adr_eq]; omega) | exact iAnd_nn _ _ | exact iSub_nn _ _ | exact part1_le (by omega) (by first | omega | (simp only [List.length_append]; omega)) | (rw [iMul_i64 (by omega) (by omega)]; omega) | decide), trivial⟩, ⟨⟨trivial, trivial⟩, ⟨⟨trivial, trivial⟩, ⟨⟨(by first | omega | (rw [adr_eq]; omega) | exact iAnd_nn _ _ | exact iSub_nn _ _ | exact part1_le (by omega) (by first | omega | (simp only [List.length_append]; omega)) | (rw [iMul_i64 (by omega) (by omega)]; omega) | decide), trivial⟩, ⟨⟨⟨(by first | omega | (rw [adr_eq]; omega) | exact iAnd_nn _ _ | exact iSub_nn _ _ | exact part1_le (by omega) (by first | omega | (simp only [List.length_append]; omega)) | (rw [iMul_i64 (by omega) (by omega)]; omega) | decide), (rfl)⟩, trivial⟩, trivial⟩⟩⟩⟩⟩⟩⟩⟩⟩⟩⟩⟩⟩⟩⟩) ?_
          change Tri _ _ _ _ _ _
          refine Tri.region' [(61, .i .i64 ((k2 + 1 : Nat) : Int))] none [44, 6, 5, 3, 2] [160, 80, 16, 0] ((True ∧ ((iAdd .i64 ((k2 : Nat) : Int) 1) = ((k2 + 1 : Nat) : Int))) ∧ ((True ∧ True) ∧ True))
              ([(44, .sc (.i .i64 ((k2 + 1 : Nat) : Int))), (6, .sc (.p 160 0)), (5, .sc (.sl 80 (0 + (64 * k1)) ((F49w64n0 p0) - (64 * k1)) 1 none)), (3, .sc (.p 16 0)), (2, .sc (.p 0 0))], [(160, .ints .u32 64 (z2.set (k2 / 4) (iOr .u32 (iShl .u32 (z2.getD (k2 / 4) 0) 8) (IntKind.wrap .u32 ((F49w64 p0).getD (adr (0 + (64 * k1)) k2 1) 0))))), (80, .ints .u8 (F49w64n0 p0) (F49w64 p0)), (16, .ints .u32 8 z1), (0, .ints .u8 32 [0, 0, 0, 0, 0, 0, 0, 0, 0, 0, 0, 0, 0, 0, 0, 0, 0, 0, 0, 0, 0, 0, 0, 0, 0, 0, 0, 0, 0, 0, 0, 0])])
              512 (by kernel_rfl) rfl (by kernel_rfl) (⟨⟨trivial, (iAdd_nat (a := k2) (b := 1) (by omega))⟩, ⟨⟨trivial, trivial⟩, trivial⟩⟩) ?_
          repeat (refine blkP_normal ?_)
          refine countP_normal (by omega) trivial ?_
          exact Sub.ren (ns := [(160, 160), (80, 80), (16, 16), (0, 0)]) (kf := [44, 6, 5, 3, 2]) (by kernel_rfl) (by kernel_rfl)
        ·
          have h5' := of_decide_eq_false h5
          refine Tri.exit ?_
          have hend2 : k2 = 64 := by (have := of_decide_eq_false h5; omega)
          subst hend2; subst hz2
          change Tri _ _ _ _ _ _
          refine Tri.seq ?_
          refine Tri.seq_region [] none [8, 6, 5, 3, 2] [160, 80, 16, 0] ((True ∧ True) ∧ True)
              ([(8, .sc (.i .i64 16)), (6, .sc (.p 160 0)), (5, .sc (.sl 80 (0 + (64 * k1)) ((F49w64n0 p0) - (64 * k1)) 1 none)), (3, .sc (.p 16 0)), (2, .sc (.p 0 0))], [(160, .ints .u32 64 (itr (F34l2 p0 k1) 64 [0, 0, 0, 0, 0, 0, 0, 0, 0, 0, 0, 0, 0, 0, 0, 0, 0, 0, 0, 0, 0, 0, 0, 0, 0, 0, 0, 0, 0, 0, 0, 0, 0, 0, 0, 0, 0, 0, 0, 0, 0, 0, 0, 0, 0, 0, 0, 0, 0, 0, 0, 0, 0, 0, 0, 0, 0, 0, 0, 0, 0, 0, 0, 0])), (80, .ints .u8 (F49w64n0 p0) (F49w64 p0)), (16, .ints .u32 8 z1), (0, .ints .u8 32 [0, 0, 0, 0, 0, 0, 0, 0, 0, 0, 0, 0, 0, 0, 0, 0, 0, 0, 0, 0, 0, 0, 0, 0, 0, 0, 0, 0, 0, 0, 0, 0])])
              224 (by kernel_rfl) rfl (by kernel_rfl) (⟨⟨trivial, trivial⟩, trivial⟩) ?_
          refine Tri.block ?_
          refine Tri.count 224 48 (F34l3) (itr (F34l2 p0 k1) 64 [0, 0, 0, 0, 0, 0, 0, 0, 0, 0, 0, 0, 0, 0, 0, 0, 0, 0, 0, 0, 0, 0, 0, 0, 0, 0, 0, 0, 0, 0, 0, 0, 0, 0, 0, 0, 0, 0, 0, 0, 0, 0, 0, 0, 0, 0, 0, 0, 0, 0, 0, 0, 0, 0, 0, 0, 0, 0, 0, 0, 0, 0, 0, 0]) (fun k3 z3 => True) (fun k3 z3 => ([(8, .sc (.i .i64 ((k3 + 16 : Nat) : Int))), (6, .sc (.p 160 0)), (5, .sc (.sl 80 (0 + (64 * k1)) ((F49w64n0 p0) - (64 * k1)) 1 none)), (3, .sc (.p 16 0)), (2, .sc (.p 0 0))], [(160, .ints .u32 64 z3), (80, .ints .u8 (F49w64n0 p0) (F49w64 p0)), (16, .ints .u32 8 z1), (0, .ints .u8 32 [0, 0, 0, 0, 0, 0, 0, 0, 0, 0, 0, 0, 0, 0, 0, 0, 0, 0, 0, 0, 0, 0, 0, 0, 0, 0, 0, 0, 0, 0, 0, 0])])) trivial (Sub.of_eq (by kernel_rfl)) ?_
          intro k3 z3 hk3 hz3 hJ3
          refine Tri.seq ?_
          refine Tri.seq_region [] none [63, 8, 6, 5, 3, 2] [160, 80, 16, 0] ((True ∧ True) ∧ ((True ∧ True) ∧ True))
              ([(63, .sc (.b (decide ((((k3 + 16 : Nat) : Int) : Int) < 64)))), (8, .sc (.i .i64 ((k3 + 16 : Nat) : Int))), (6, .sc (.p 160 0)), (5, .sc (.sl 80 (0 + (64 * k1)) ((F49w64n0 p0) - (64 * k1)) 1 none)), (3, .sc (.p 16 0)), (2, .sc (.p 0 0))], [(160, .ints .u32 64 z3), (80, .ints .u8 (F49w64n0 p0) (F49w64 p0)), (16, .ints .u32 8 z1), (0, .ints .u8 32 [0, 0, 0, 0, 0, 0, 0, 0, 0, 0, 0, 0, 0, 0, 0, 0, 0, 0, 0, 0, 0, 0, 0, 0, 0, 0, 0, 0, 0, 0, 0, 0])])
              256 (by kernel_rfl) rfl (by kernel_rfl) (⟨⟨trivial, trivial⟩, ⟨⟨trivial, trivial⟩, trivial⟩⟩) ?_
          refine Tri.cond (x := (decide ((((k3 + 16 : Nat) : Int) : Int) < 64))) (by kernel_rfl) (fun h9 => ?_) (fun h9 => ?_)
          ·
            have h9' := of_decide_eq_true h9
            refine Tri.skip ?_
            change Tri _ _ _ _ _ _
            refine Tri.seq ?_
            refine Tri.block ?_
            refine Tri.len 160 rfl (fun hl10 => ?_)
            refine Tri.len 80 rfl (fun hl11 => ?_)
            refine Tri.len 16 rfl (fun hl12 => ?_)
            refine Tri.seq_region [(67, .i .i64 (((k3 + 16) - 15 : Nat) : Int)), (71, .i .i64 (((k3 + 16) - 2 : Nat) : Int))] (some [0, 1, 3, 7, 0, 16, 48, 112, 15, 511]) [10, 9, 8, 6, 5, 3, 2] [160, 80, 16, 0] ((True ∧ True) ∧ ((True ∧ ((iSub .i64 ((k3 + 16 : Nat) : Int) 15) = (((k3 + 16) - 15 : Nat) : Int))) ∧ ((((0 : Int) ≤ (((k3 + 16) - 15 : Nat) : Int) ∧ (((k3 + 16) - 15 : Nat) : Int) < ((64 : Nat) : Int)) ∧ True) ∧ ((((k3 + 16) - 15 < 64) ∧ True) ∧ ((True ∧ True) ∧ ((True ∧ ((iSub .i64 ((k3 + 16 : Nat) : Int) 2) = (((k3 + 16) - 2 : Nat) : Int))) ∧ ((((0 : Int) ≤ (((k3 + 16) - 2 : Nat) : Int) ∧ (((k3 + 16) - 2 : Nat) : Int) < ((64 : Nat) : Int)) ∧ True) ∧ ((((k3 + 16) - 2 < 64) ∧ True) ∧ ((True ∧ True) ∧ ((True ∧ True) ∧ True))))))))))
                ([(10, .sc (.i .u32 (z3.getD ((k3 + 16) - 2) 0))), (9, .sc (.i .u32 (z3.getD ((k3 + 16) - 15) 0))), (8, .sc (.i .i64 ((k3 + 16 : Nat) : Int))), (6, .sc (.p 160 0)), (5, .sc (.sl 80 (0 + (64 * k1)) ((F49w64n0 p0) - (64 * k1)) 1 none)), (3, .sc (.p 16 0)), (2, .sc (.p 0 0))], [(160, .ints .u32 64 z3), (80, .ints .u8 (F49w64n0 p0) (F49w64 p0)), (16, .ints .u32 8 z1), (0, .ints .u8 32 [0, 0, 0, 0, 0, 0, 0, 0, 0, 0, 0, 0, 0, 0, 0, 0, 0, 0, 0, 0, 0, 0, 0, 0, 0, 0, 0, 0, 0, 0, 0, 0])])
                416 (by kernel_rfl) rfl (by kernel_rfl) (⟨⟨trivial, trivial⟩, ⟨⟨trivial, (iSub_nat (a := k3 + 16) (b := 15) (by omega) (by omega))⟩, ⟨⟨(by first | omega | (rw [adr_eq]; omega) | exact iAnd_nn _ _ | exact iSub_nn _ _ | exact part1_le (by omega) (by first | omega | (simp only [List.length_append]; omega)) | (rw [iMul_i64 (by omega) (by omega)]; omega) | decide), trivial⟩, ⟨⟨(by first | omega | (rw [adr_eq]; omega) | exact iAnd_nn _ _ | exact iSub_nn _ _ | exact part1_le (by omega) (by first | omega | (simp only [List.length_append]; omega)) | (rw [iMul_i64 (by omega) (by omega)]; omega) | decide), trivial⟩, ⟨⟨trivial, trivial⟩, ⟨⟨trivial, (iSub_nat (a := k3 + 16) (b := 2) (by omega) (by omega))⟩, ⟨⟨(by first | omega | (rw [adr_eq]; omega) | exact iAnd_nn _ _ | exact iSub_nn _ _ | exact part1_le (by omega) (by first | omega | (simp only [List.length_append]; omega)) | (rw [iMul_i64 (by omega) (by omega)]; omega) | decide), trivial⟩, ⟨⟨(by first | omega | (rw [adr_eq]; omega) | exact iAnd_nn _ _ | exact iSub_nn _ _ | exact part1_le (by omega) (by first | omega | (simp only [List.length_append]; omega)) | (rw [iMul_i64 (by omega) (by omega)]; omega) | decide), trivial⟩, ⟨⟨trivial, trivial⟩, ⟨⟨trivial, trivial⟩, trivial⟩⟩⟩⟩⟩⟩⟩⟩⟩⟩) ?_
            refine Tri.len 160 rfl (fun hl13 => ?_)
            refine Tri.len 80 rfl (fun hl14 => ?_)
            refine Tri.len 16 rfl (fun hl15 => ?_)
            refine Tri.region' [(76, .i .i64 (((k3 + 16) - 16 : Nat) : Int)), (80, .i .i64 (((k3 + 16) - 7 : Nat) : Int))] (some [0, 0, 2, 6, 14, 0, 32, 96, 224, 510, 0, 1024, 0, 7168, 15360, 0, 32768, 130048, 262142, 0, 539648, 0, 3685376, 7879680, 0, 16777216, 66599936, 134217726, 268435455, 536870911]) [8, 6, 5, 3, 2] [160, 80, 16, 0] ((True ∧ True) ∧ ((True ∧ True) ∧ ((True ∧ ((iSub .i64 ((k3 + 16 : Nat) : Int) 16) = (((k3 + 16) - 16 : Nat) : Int))) ∧ ((((0 : Int) ≤ (((k3 + 16) - 16 : Nat) : Int) ∧ (((k3 + 16) - 16 : Nat) : Int) < ((64 : Nat) : Int)) ∧ True) ∧ ((((k3 + 16) - 16 < 64) ∧ True) ∧ ((True ∧ True) ∧ ((True ∧ ((iSub .i64 ((k3 + 16 : Nat) : Int) 7) = (((k3 + 16) - 7 : Nat) : Int))) ∧ ((((0 : Int) ≤ (((k3 + 16) - 7 : Nat) : Int) ∧ (((k3 + 16) - 7 : Nat) : Int) < ((64 : Nat) : Int)) ∧ True) ∧ ((((k3 + 16) - 7 < 64) ∧ True) ∧ ((True ∧ True) ∧ ((True ∧ True) ∧ (((True ∧ True) ∧ True) ∧ ((True ∧ True) ∧ (((True ∧ True) ∧ True) ∧ ((True ∧ True) ∧ ((True ∧ True) ∧ ((((0 : Int) ≤ 3) ∧ True) ∧ ((True ∧ True) ∧ ((True ∧ True) ∧ ((True ∧ True) ∧ (((True ∧ True) ∧ True) ∧ ((True ∧ True) ∧ (((True ∧ True) ∧ True) ∧ ((True ∧ True) ∧ ((True ∧ True) ∧ ((((0 : Int) ≤ 10) ∧ True) ∧ ((True ∧ True) ∧ ((True ∧ True) ∧ ((((0 : Int) ≤ ((k3 + 16 : Nat) : Int) ∧ ((k3 + 16 : Nat) : Int) < ((64 : Nat) : Int)) ∧ True) ∧ ((((k3 + 16 < 64) ∧ (1 = 1)) ∧ True) ∧ True))))))))))))))))))))))))))))))
                ([(8, .sc (.i .i64 ((k3 + 16 : Nat) : Int))), (6, .sc (.p 160 0)), (5, .sc (.sl 80 (0 + (64 * k1)) ((F49w64n0 p0) - (64 * k1)) 1 none)), (3, .sc (.p 16 0)), (2, .sc (.p 0 0))], [(160, .ints .u32 64 (z3.set (k3 + 16) (iAdd .u32 (iAdd .u32 (iAdd .u32 (z3.getD ((k3 + 16) - 16) 0) (z3.getD ((k3 + 16) - 7) 0)) (iXor .u32 (iXor .u32 (F50 (z3.getD ((k3 + 16) - 15) 0) 25) (F50 (z3.getD ((k3 + 16) - 15) 0) 14)) (iShr .u32 (z3.getD ((k3 + 16) - 15) 0) 3))) (iXor .u32 (iXor .u32 (F50 (z3.getD ((k3 + 16) - 2) 0) 15) (F50 (z3.getD ((k3 + 16) - 2) 0) 13)) (iShr .u32 (z3.getD ((k3 + 16) - 2) 0) 10))))), (80, .ints .u8 (F49w64n0 p0) (F49w64 p0)), (16, .ints .u32 8 z1), (0, .ints .u8 32 [0, 0, 0, 0, 0, 0, 0, 0, 0, 0, 0, 0, 0, 0, 0, 0, 0, 0, 0, 0, 0, 0, 0, 0, 0, 0, 0, 0, 0, 0, 0, 0])])
                896 (by kernel_rfl) rfl (by kernel_rfl) (⟨⟨trivial, trivial⟩, ⟨⟨trivial, trivial⟩, ⟨⟨trivial, (iSub_nat (a := k3 + 16) (b := 16) (by omega) (by omega))⟩, ⟨⟨(by first | omega | (rw [adr_eq]; omega) | exact iAnd_nn _ _ | exact iSub_nn _ _ | exact part1_le (by omega) (by first | omega | (simp only [List.length_append]; omega)) | (rw [iMul_i64 (by omega) (by omega)]; omega) | decide), trivial⟩, ⟨⟨(by first | omega | (rw [adr_eq]; omega) | exact iAnd_nn _ _ | exact iSub_nn _ _ | exact part1_le (by omega) (by first | omega | (simp only [List.length_append]; omega)) | (rw [iMul_i64 (by omega) (by omega)]; omega) | decide), trivial⟩, ⟨⟨trivial, trivial⟩, ⟨⟨trivial, (iSub_nat (a := k3 + 16) (b := 7) (by omega) (by omega))⟩, ⟨⟨(by first | omega | (rw [adr_eq]; omega) | exact iAnd_nn _ _ | exact iSub_nn _ _ | exact part1_le (by omega) (by first | omega | (simp only [List.length_append]; omega)) | (rw [iMul_i64 (by omega) (by omega)]; omega) | decide), trivial⟩, ⟨⟨(by first | omega | (rw [adr_eq]; omega) | exact iAnd_nn _ _ | exact iSub_nn _ _ | exact part1_le (by omega) (by first | omega | (simp only [List.length_append]; omega)) | (rw [iMul_i64 (by omega) (by omega)]; omega) | decide), trivial⟩, ⟨⟨trivial, trivial⟩, ⟨⟨trivial, trivial⟩, ⟨⟨⟨trivial, trivial⟩, trivial⟩, ⟨⟨trivial, trivial⟩, ⟨⟨⟨trivial, trivial⟩, trivial⟩, ⟨⟨trivial, trivial⟩, ⟨⟨trivial, trivial⟩, ⟨⟨(by first | omega | (rw [adr_eq]; omega) | exact iAnd_nn _ _ | exact iSub_nn _ _ | exact part1_le (by omega) (by first | omega | (simp only [List.length_append]; omega)) | (rw [iMul_i64 (by omega) (by omega)]; omega) | decide), trivial⟩, ⟨⟨trivial, trivial⟩, ⟨⟨trivial, trivial⟩, ⟨⟨trivial, trivial⟩, ⟨⟨⟨trivial, trivial⟩, trivial⟩, ⟨⟨trivial, trivial⟩, ⟨⟨⟨trivial, trivial⟩, trivial⟩, ⟨⟨trivial, trivial⟩, ⟨⟨trivial, trivial⟩, ⟨⟨(by first | omega | (rw [adr_eq]; omega) | exact iAnd_nn _ _ | exact iSub_nn _ _ | exact part1_le (by omega) (by first | omega | (simp only [List.length_append]; omega)) | (rw [iMul_i64 (by omega) (by omega)]; omega) | decide), trivial⟩, ⟨⟨trivial, trivial⟩, ⟨⟨trivial, trivial⟩, ⟨⟨(by first | omega | (rw [adr_eq]; omega) | exact iAnd_nn _ _ | exact iSub_nn _ _ | exact part1_le (by omega) (by first | omega | (simp only [List.length_append]; omega)) | (rw [iMul_i64 (by omega) (by omega)]; omega) | decide), trivial⟩, ⟨⟨⟨(by first | omega | (rw [adr_eq]; omega) | exact iAnd_nn _ _ | exact iSub_nn _ _ | exact part1_le (by omega) (by first | omega | (simp only [List.length_append]; omega)) | (rw [iMul_i64 (by omega) (by omega)]; omega) | decide), (rfl)⟩, trivial⟩, trivial⟩⟩⟩⟩⟩⟩⟩⟩⟩⟩⟩⟩⟩⟩⟩⟩⟩⟩⟩⟩⟩⟩⟩⟩⟩⟩⟩⟩⟩⟩) ?_
            change Tri _ _ _ _ _ _
            refine Tri.region' [(65, .i .i64 (((k3 + 16) + 1 : Nat) : Int))] none [8, 6, 5, 3, 2] [160, 80, 16, 0] ((True ∧ True) ∧ ((True ∧ ((iAdd .i64 ((k3 + 16 : Nat) : Int) 1) = (((k3 + 16) + 1 : Nat) : Int))) ∧ ((True ∧ True) ∧ True)))
                ([(8, .sc (.i .i64 (((k3 + 16) + 1 : Nat) : Int))), (6, .sc (.p 160 0)), (5, .sc (.sl 80 (0 + (64 * k1)) ((F49w64n0 p0) - (64 * k1)) 1 none)), (3, .sc (.p 16 0)), (2, .sc (.p 0 0))], [(160, .ints .u32 64 (z3.set (k3 + 16) (iAdd .u32 (iAdd .u32 (iAdd .u32 (z3.getD ((k3 + 16) - 16) 0) (z3.getD ((k3 + 16) - 7) 0)) (iXor .u32 (iXor .u32 (F50 (z3.getD ((k3 + 16) - 15) 0) 25) (F50 (z3.getD ((k3 + 16) - 15) 0) 14)) (iShr .u32 (z3.getD ((k3 + 16) - 15) 0) 3))) (iXor .u32 (iXor .u32 (F50 (z3.getD ((k3 + 16) - 2) 0) 15) (F50 (z3.getD ((k3 + 16) - 2) 0) 13)) (iShr .u32 (z3.getD ((k3 + 16) - 2) 0) 10))))), (80, .ints .u8 (F49w64n0 p0) (F49w64 p0)), (16, .ints .u32 8 z1), (0, .ints .u8 32 [0, 0, 0, 0, 0, 0, 0, 0, 0, 0, 0, 0, 0, 0, 0, 0, 0, 0, 0, 0, 0, 0, 0, 0, 0, 0, 0, 0, 0, 0, 0, 0])])
                944 (by kernel_rfl) rfl (by kernel_rfl) (⟨⟨trivial, trivial⟩, ⟨⟨trivial, (iAdd_nat (a := k3 + 16) (b := 1) (by omega))⟩, ⟨⟨trivial, trivial⟩, trivial⟩⟩⟩) ?_
            repeat (refine blkP_normal ?_)
            refine countP_normal (by omega) trivial ?_
            exact Sub.ren (ns := [(160, 160), (80, 80), (16, 16), (0, 0)]) (kf := [8, 6, 5, 3, 2]) (by kernel_rfl) (by kernel_rfl)
          ·
            have h9' := of_decide_eq_false h9
            refine Tri.exit ?_
            have hend3 : k3 = 48 := by (have := of_decide_eq_false h9; omega)
            subst hend3; subst hz3
            change Tri _ _ _ _ _ _
            refine Tri.len 160 rfl (fun hl16 => ?_)
            refine Tri.len 80 rfl (fun hl17 => ?_)
            refine Tri.len 16 rfl (fun hl18 => ?_)
            refine Tri.seq_region [] (some [0, 1, 0, 4, 0, 16, 0, 64, 0, 256, 0, 1024, 0, 4096, 0, 16384, 3, 65551, 196671, 459007, 984063, 2035711, 4145151, 8388607]) [18, 17, 16, 15, 14, 13, 12, 11, 6, 5, 3, 2] [160, 80, 16, 0] ((((0 : Int) ≤ 0 ∧ 0 < ((8 : Nat) : Int)) ∧ True) ∧ (((0 < 8) ∧ True) ∧ ((((0 : Int) ≤ 1 ∧ 1 < ((8 : Nat) : Int)) ∧ True) ∧ (((1 < 8) ∧ True) ∧ ((((0 : Int) ≤ 2 ∧ 2 < ((8 : Nat) : Int)) ∧ True) ∧ (((2 < 8) ∧ True) ∧ ((((0 : Int) ≤ 3 ∧ 3 < ((8 : Nat) : Int)) ∧ True) ∧ (((3 < 8) ∧ True) ∧ ((((0 : Int) ≤ 4 ∧ 4 < ((8 : Nat) : Int)) ∧ True) ∧ (((4 < 8) ∧ True) ∧ ((((0 : Int) ≤ 5 ∧ 5 < ((8 : Nat) : Int)) ∧ True) ∧ (((5 < 8) ∧ True) ∧ ((((0 : Int) ≤ 6 ∧ 6 < ((8 : Nat) : Int)) ∧ True) ∧ (((6 < 8) ∧ True) ∧ ((((0 : Int) ≤ 7 ∧ 7 < ((8 : Nat) : Int)) ∧ True) ∧ (((7 < 8) ∧ True) ∧ ((True ∧ True) ∧ ((True ∧ True) ∧ ((True ∧ True) ∧ ((True ∧ True) ∧ ((True ∧ True) ∧ ((True ∧ True) ∧ ((True ∧ True) ∧ ((True ∧ True) ∧ True))))))))))))))))))))))))
                ([(18, .sc (.i .u32 (z1.getD 7 0))), (17, .sc (.i .u32 (z1.getD 6 0))), (16, .sc (.i .u32 (z1.getD 5 0))), (15, .sc (.i .u32 (z1.getD 4 0))), (14, .sc (.i .u32 (z1.getD 3 0))), (13, .sc (.i .u32 (z1.getD 2 0))), (12, .sc (.i .u32 (z1.getD 1 0))), (11, .sc (.i .u32 (z1.getD 0 0))), (6, .sc (.p 160 0)), (5, .sc (.sl 80 (0 + (64 * k1)) ((F49w64n0 p0) - (64 * k1)) 1 none)), (3, .sc (.p 16 0)), (2, .sc (.p 0 0))], [(160, .ints .u32 64 (itr (F34l3) 48 (itr (F34l2 p0 k1) 64 [0, 0, 0, 0, 0, 0, 0, 0, 0, 0, 0, 0, 0, 0, 0, 0, 0, 0, 0, 0, 0, 0, 0, 0, 0, 0, 0, 0, 0, 0, 0, 0, 0, 0, 0, 0, 0, 0, 0, 0, 0, 0, 0, 0, 0, 0, 0, 0, 0, 0, 0, 0, 0, 0, 0, 0, 0, 0, 0, 0, 0, 0, 0, 0]))), (80, .ints .u8 (F49w64n0 p0) (F49w64 p0)), (16, .ints .u32 8 z1), (0, .ints .u8 32 [0, 0, 0, 0, 0, 0, 0, 0, 0, 0, 0, 0, 0, 0, 0, 0, 0, 0, 0, 0, 0, 0, 0, 0, 0, 0, 0, 0, 0, 0, 0, 0])])
                640 (by kernel_rfl) rfl (by kernel_rfl) (⟨⟨(by first | omega | (rw [adr_eq]; omega) | exact iAnd_nn _ _ | exact iSub_nn _ _ | exact part1_le (by omega) (by first | omega | (simp only [List.length_append]; omega)) | (rw [iMul_i64 (by omega) (by omega)]; omega) | decide), trivial⟩, ⟨⟨(by first | omega | (rw [adr_eq]; omega) | exact iAnd_nn _ _ | exact iSub_nn _ _ | exact part1_le (by omega) (by first | omega | (simp only [List.length_append]; omega)) | (rw [iMul_i64 (by omega) (by omega)]; omega) | decide), trivial⟩, ⟨⟨(by first | omega | (rw [adr_eq]; omega) | exact iAnd_nn _ _ | exact iSub_nn _ _ | exact part1_le (by omega) (by first | omega | (simp only [List.length_append]; omega)) | (rw [iMul_i64 (by omega) (by omega)]; omega) | decide), trivial⟩, ⟨⟨(by first | omega | (rw [adr_eq]; omega) | exact iAnd_nn _ _ | exact iSub_nn _ _ | exact part1_le (by omega) (by first | omega | (simp only [List.length_append]; omega)) | (rw [iMul_i64 (by omega) (by omega)]; omega) | decide), trivial⟩, ⟨⟨(by first | omega | (rw [adr_eq]; omega) | exact iAnd_nn _ _ | exact iSub_nn _ _ | exact part1_le (by omega) (by first | omega | (simp only [List.length_append]; omega)) | (rw [iMul_i64 (by omega) (by omega)]; omega) | decide), trivial⟩, ⟨⟨(by first | omega | (rw [adr_eq]; omega) | exact iAnd_nn _ _ | exact iSub_nn _ _ | exact part1_le (by omega) (by first | omega | (simp only [List.length_append]; omega)) | (rw [iMul_i64 (by omega) (by omega)]; omega) | decide), trivial⟩, ⟨⟨(by first | omega | (rw [adr_eq]; omega) | exact iAnd_nn _ _ | exact iSub_nn _ _ | exact part1_le (by omega) (by first | omega | (simp only [List.length_append]; omega)) | (rw [iMul_i64 (by omega) (by omega)]; omega) | decide), trivial⟩, ⟨⟨(by first | omega | (rw [adr_eq]; omega) | exact iAnd_nn _ _ | exact iSub_nn _ _ | exact part1_le (by omega) (by first | omega | (simp only [List.length_append]; omega)) | (rw [iMul_i64 (by omega) (by omega)]; omega) | decide), trivial⟩, ⟨⟨(by first | omega | (rw [adr_eq]; omega) | exact iAnd_nn _ _ | exact iSub_nn _ _ | exact part1_le (by omega) (by first | omega | (simp only [List.length_append]; omega)) | (rw [iMul_i64 (by omega) (by omega)]; omega) | decide), trivial⟩, ⟨⟨(by first | omega | (rw [adr_eq]; omega) | exact iAnd_nn _ _ | exact iSub_nn _ _ | exact part1_le (by omega) (by first | omega | (simp only [List.length_append]; omega)) | (rw [iMul_i64 (by omega) (by omega)]; omega) | decide), trivial⟩, ⟨⟨(by first | omega | (rw [adr_eq]; omega) | exact iAnd_nn _ _ | exact iSub_nn _ _ | exact part1_le (by omega) (by first | omega | (simp only [List.length_append]; omega)) | (rw [iMul_i64 (by omega) (by omega)]; omega) | decide), trivial⟩, ⟨⟨(by first | omega | (rw [adr_eq]; omega) | exact iAnd_nn _ _ | exact iSub_nn _ _ | exact part1_le (by omega) (by first | omega | (simp only [List.length_append]; omega)) | (rw [iMul_i64 (by omega) (by omega)]; omega) | decide), trivial⟩, ⟨⟨(by first | omega | (rw [adr_eq]; omega) | exact iAnd_nn _ _ | exact iSub_nn _ _ | exact part1_le (by omega) (by first | omega | (simp only [List.length_append]; omega)) | (rw [iMul_i64 (by omega) (by omega)]; omega) | decide), trivial⟩, ⟨⟨(by first | omega | (rw [adr_eq]; omega) | exact iAnd_nn _ _ | exact iSub_nn _ _ | exact part1_le (by omega) (by first | omega | (simp only [List.length_append]; omega)) | (rw [iMul_i64 (by omega) (by omega)]; omega) | decide), trivial⟩, ⟨⟨(by first | omega | (rw [adr_eq]; omega) | exact iAnd_nn _ _ | exact iSub_nn _ _ | exact part1_le (by omega) (by first | omega | (simp only [List.length_append]; omega)) | (rw [iMul_i64 (by omega) (by omega)]; omega) | decide), trivial⟩, ⟨⟨(by first | omega | (rw [adr_eq]; omega) | exact iAnd_nn _ _ | exact iSub_nn _ _ | exact part1_le (by omega) (by first | omega | (simp only [List.length_append]; omega)) | (rw [iMul_i64 (by omega) (by omega)]; omega) | decide), trivial⟩, ⟨⟨trivial, trivial⟩, ⟨⟨trivial, trivial⟩, ⟨⟨trivial, trivial⟩, ⟨⟨trivial, trivial⟩, ⟨⟨trivial, trivial⟩, ⟨⟨trivial, trivial⟩, ⟨⟨trivial, trivial⟩, ⟨⟨trivial, trivial⟩, trivial⟩⟩⟩⟩⟩⟩⟩⟩⟩⟩⟩⟩⟩⟩⟩⟩⟩⟩⟩⟩⟩⟩⟩⟩) ?_
            refine Tri.seq ?_
            refine Tri.seq_region [] none [119, 18, 17, 16, 15, 14, 13, 12, 11, 6, 5, 3, 2] [160, 80, 16, 0] ((True ∧ True) ∧ True)
                ([(119, .sc (.i .i64 0)), (18, .sc (.i .u32 (z1.getD 7 0))), (17, .sc (.i .u32 (z1.getD 6 0))), (16, .sc (.i .u32 (z1.getD 5 0))), (15, .sc (.i .u32 (z1.getD 4 0))), (14, .sc (.i .u32 (z1.getD 3 0))), (13, .sc (.i .u32 (z1.getD 2 0))), (12, .sc (.i .u32 (z1.getD 1 0))), (11, .sc (.i .u32 (z1.getD 0 0))), (6, .sc (.p 160 0)), (5, .sc (.sl 80 (0 + (64 * k1)) ((F49w64n0 p0) - (64 * k1)) 1 none)), (3, .sc (.p 16 0)), (2, .sc (.p 0 0))], [(160, .ints .u32 64 (itr (F34l3) 48 (itr (F34l2 p0 k1) 64 [0, 0, 0, 0, 0, 0, 0, 0, 0, 0, 0, 0, 0, 0, 0, 0, 0, 0, 0, 0, 0, 0, 0, 0, 0, 0, 0, 0, 0, 0, 0, 0, 0, 0, 0, 0, 0, 0, 0, 0, 0, 0, 0, 0, 0, 0, 0, 0, 0, 0, 0, 0, 0, 0, 0, 0, 0, 0, 0, 0, 0, 0, 0, 0]))), (80, .ints .u8 (F49w64n0 p0) (F49w64 p0)), (16, .ints .u32 8 z1), (0, .ints .u8 32 [0, 0, 0, 0, 0, 0, 0, 0, 0, 0, 0, 0, 0, 0, 0, 0, 0, 0, 0, 0, 0, 0, 0, 0, 0, 0, 0, 0, 0, 0, 0, 0])])
                656 (by kernel_rfl) rfl (by kernel_rfl) (⟨⟨trivial, trivial⟩, trivial⟩) ?_
            refine Tri.block ?_
            refine Tri.count 656 64 (F34l4 p0 k1) (z1.getD 7 0, z1.getD 6 0, z1.getD 5 0, z1.getD 4 0, z1.getD 3 0, z1.getD 2 0, z1.getD 1 0, z1.getD 0 0) (fun k4 z4 => True) (fun k4 z4 => ([(119, .sc (.i .i64 ((k4 : Nat) : Int))), (18, .sc (.i .u32 z4.1)), (17, .sc (.i .u32 z4.2.1)), (16, .sc (.i .u32 z4.2.2.1)), (15, .sc (.i .u32 z4.2.2.2.1)), (14, .sc (.i .u32 z4.2.2.2.2.1)), (13, .sc (.i .u32 z4.2.2.2.2.2.1)), (12, .sc (.i .u32 z4.2.2.2.2.2.2.1)), (11, .sc (.i .u32 z4.2.2.2.2.2.2.2)), (6, .sc (.p 160 0)), (5, .sc (.sl 80 (0 + (64 * k1)) ((F49w64n0 p0) - (64 * k1)) 1 none)), (3, .sc (.p 16 0)), (2, .sc (.p 0 0))], [(160, .ints .u32 64 (itr (F34l3) 48 (itr (F34l2 p0 k1) 64 [0, 0, 0, 0, 0, 0, 0, 0, 0, 0, 0, 0, 0, 0, 0, 0, 0, 0, 0, 0, 0, 0, 0, 0, 0, 0, 0, 0, 0, 0, 0, 0, 0, 0, 0, 0, 0, 0, 0, 0, 0, 0, 0, 0, 0, 0, 0, 0, 0, 0, 0, 0, 0, 0, 0, 0, 0, 0, 0, 0, 0, 0, 0, 0]))), (80, .ints .u8 (F49w64n0 p0) (F49w64 p0)), (16, .ints .u32 8 z1), (0, .ints .u8 32 [0, 0, 0, 0, 0, 0, 0, 0, 0, 0, 0, 0, 0, 0, 0, 0, 0, 0, 0, 0, 0, 0, 0, 0, 0, 0, 0, 0, 0, 0, 0, 0])])) trivial (Sub.of_eq (by kernel_rfl)) ?_
            intro k4 z4 hk4 hz4 hJ4
            refine Tri.seq_region [] none [120, 119, 18, 17, 16, 15, 14, 13, 12, 11, 6, 5, 3, 2] [160, 80, 16, 0] ((True ∧ True) ∧ True)
                ([(120, .sc (.b (decide ((((k4 : Nat) : Int) : Int) < 64)))), (119, .sc (.i .i64 ((k4 : Nat) : Int))), (18, .sc (.i .u32 z4.1)), (17, .sc (.i .u32 z4.2.1)), (16, .sc (.i .u32 z4.2.2.1)), (15, .sc (.i .u32 z4.2.2.2.1)), (14, .sc (.i .u32 z4.2.2.2.2.1)), (13, .sc (.i .u32 z4.2.2.2.2.2.1)), (12, .sc (.i .u32 z4.2.2.2.2.2.2.1)), (11, .sc (.i .u32 z4.2.2.2.2.2.2.2)), (6, .sc (.p 160 0)), (5, .sc (.sl 80 (0 + (64 * k1)) ((F49w64n0 p0) - (64 * k1)) 1 none)), (3, .sc (.p 16 0)), (2, .sc (.p 0 0))], [(160, .ints .u32 64 (itr (F34l3) 48 (itr (F34l2 p0 k1) 64 [0, 0, 0, 0, 0, 0, 0, 0, 0, 0, 0, 0, 0, 0, 0, 0, 0, 0, 0, 0, 0, 0, 0, 0, 0, 0, 0, 0, 0, 0, 0, 0, 0, 0, 0, 0, 0, 0, 0, 0, 0, 0, 0, 0, 0, 0, 0, 0, 0, 0, 0, 0, 0, 0, 0, 0, 0, 0, 0, 0, 0, 0, 0, 0]))), (80, .ints .u8 (F49w64n0 p0) (F49w64 p0)), (16, .ints .u32 8 z1), (0, .ints .u8 32 [0, 0, 0, 0, 0, 0, 0, 0, 0, 0, 0, 0, 0, 0, 0, 0, 0, 0, 0, 0, 0, 0, 0, 0, 0, 0, 0, 0, 0, 0, 0, 0])])
                672 (by kernel_rfl) rfl (by kernel_rfl) (⟨⟨trivial, trivial⟩, trivial⟩) ?_
            refine Tri.seq ?_
            refine Tri.cond (x := (decide ((((k4 : Nat) : Int) : Int) < 64))) (by kernel_rfl) (fun h19 => ?_) (fun h19 => ?_)
            ·
              have h19' := of_decide_eq_true h19
              refine Tri.skip ?_
              change Tri _ _ _ _ _ _
              refine Tri.seq ?_
              refine Tri.block ?_
              refine Tri.seq_region [] none [19, 119, 18, 17, 16, 15, 14, 13, 12, 11, 6, 5, 3, 2] [160, 80, 16, 0] ((True ∧ True) ∧ ((True ∧ True) ∧ True))
                  ([(19, .sc (.i .i64 ((k4 : Nat) : Int))), (119, .sc (.i .i64 ((k4 : Nat) : Int))), (18, .sc (.i .u32 z4.1)), (17, .sc (.i .u32 z4.2.1)), (16, .sc (.i .u32 z4.2.2.1)), (15, .sc (.i .u32 z4.2.2.2.1)), (14, .sc (.i .u32 z4.2.2.2.2.1)), (13, .sc (.i .u32 z4.2.2.2.2.2.1)), (12, .sc (.i .u32 z4.2.2.2.2.2.2.1)), (11, .sc (.i .u32 z4.2.2.2.2.2.2.2)), (6, .sc (.p 160 0)), (5, .sc (.sl 80 (0 + (64 * k1)) ((F49w64n0 p0) - (64 * k1)) 1 none)), (3, .sc (.p 16 0)), (2, .sc (.p 0 0))], [(160, .ints .u32 64 (itr (F34l3) 48 (itr (F34l2 p0 k1) 64 [0, 0, 0, 0, 0, 0, 0, 0, 0, 0, 0, 0, 0, 0, 0, 0, 0, 0, 0, 0, 0, 0, 0, 0, 0, 0, 0, 0, 0, 0, 0, 0, 0, 0, 0, 0, 0, 0, 0, 0, 0, 0, 0, 0, 0, 0, 0, 0, 0, 0, 0, 0, 0, 0, 0, 0, 0, 0, 0, 0, 0, 0, 0, 0]))), (80, .ints .u8 (F49w64n0 p0) (F49w64 p0)), (16, .ints .u32 8 z1), (0, .ints .u8 32 [0, 0, 0, 0, 0, 0, 0, 0, 0, 0, 0, 0, 0, 0, 0, 0, 0, 0, 0, 0, 0, 0, 0, 0, 0, 0, 0, 0, 0, 0, 0, 0])])
                  704 (by kernel_rfl) rfl (by kernel_rfl) (⟨⟨trivial, trivial⟩, ⟨⟨trivial, trivial⟩, trivial⟩⟩) ?_
              refine Tri.len 160 rfl (fun hl20 => ?_)
              refine Tri.len 80 rfl (fun hl21 => ?_)
              refine Tri.len 16 rfl (fun hl22 => ?_)
              refine Tri.seq_region [] (some [0, 0, 2, 0, 14, 30, 0, 94, 254, 511, 0, 0, 3072, 0, 8192, 0, 57344, 130048, 262143, 0, 524288, 1572864, 3670016, 7864320, 16777215, 0, 33554432, 100663296, 268435455, 536870911]) [20, 119, 17, 16, 15, 14, 13, 12, 11, 6, 5, 3, 2] [160, 80, 16, 0] ((True ∧ True) ∧ ((True ∧ True) ∧ (((True ∧ True) ∧ True) ∧ ((True ∧ True) ∧ (((True ∧ True) ∧ True) ∧ ((True ∧ True) ∧ ((True ∧ True) ∧ (((True ∧ True) ∧ True) ∧ ((True ∧ True) ∧ ((True ∧ True) ∧ ((True ∧ True) ∧ ((True ∧ True) ∧ ((True ∧ True) ∧ ((True ∧ True) ∧ ((True ∧ True) ∧ ((True ∧ True) ∧ ((True ∧ True) ∧ ((True ∧ True) ∧ ((True ∧ True) ∧ ((True ∧ True) ∧ ((((0 : Int) ≤ ((k4 : Nat) : Int) ∧ ((k4 : Nat) : Int) < ((80 : Nat) : Int)) ∧ True) ∧ (((0 + k4 < gSteps.length) ∧ True) ∧ ((((0 : Int) ≤ 32) ∧ True) ∧ ((True ∧ True) ∧ ((True ∧ True) ∧ ((True ∧ True) ∧ ((((0 : Int) ≤ ((k4 : Nat) : Int) ∧ ((k4 : Nat) : Int) < ((64 : Nat) : Int)) ∧ True) ∧ (((k4 < 64) ∧ True) ∧ ((True ∧ True) ∧ ((True ∧ True) ∧ True))))))))))))))))))))))))))))))
                  ([(20, .sc (.i .u32 (iAdd .u32 (iAdd .u32 (iAdd .u32 (iAdd .u32 z4.1 (iXor .u32 (iXor .u32 (F50 z4.2.2.2.1 26) (F50 z4.2.2.2.1 21)) (F50 z4.2.2.2.1 7))) (iXor .u32 (iAnd .u32 z4.2.2.2.1 z4.2.2.1) (iAnd .u32 (iNot .u32 z4.2.2.2.1) z4.2.1))) (IntKind.wrap .u32 (iShr .u64 (gSteps.getD (0 + k4) 0) 32))) ((itr (F34l3) 48 (itr (F34l2 p0 k1) 64 [0, 0, 0, 0, 0, 0, 0, 0, 0, 0, 0, 0, 0, 0, 0, 0, 0, 0, 0, 0, 0, 0, 0, 0, 0, 0, 0, 0, 0, 0, 0, 0, 0, 0, 0, 0, 0, 0, 0, 0, 0, 0, 0, 0, 0, 0, 0, 0, 0, 0, 0, 0, 0, 0, 0, 0, 0, 0, 0, 0, 0, 0, 0, 0])).getD k4 0)))), (119, .sc (.i .i64 ((k4 : Nat) : Int))), (17, .sc (.i .u32 z4.2.1)), (16, .sc (.i .u32 z4.2.2.1)), (15, .sc (.i .u32 z4.2.2.2.1)), (14, .sc (.i .u32 z4.2.2.2.2.1)), (13, .sc (.i .u32 z4.2.2.2.2.2.1)), (12, .sc (.i .u32 z4.2.2.2.2.2.2.1)), (11, .sc (.i .u32 z4.2.2.2.2.2.2.2)), (6, .sc (.p 160 0)), (5, .sc (.sl 80 (0 + (64 * k1)) ((F49w64n0 p0) - (64 * k1)) 1 none)), (3, .sc (.p 16 0)), (2, .sc (.p 0 0))], [(160, .ints .u32 64 (itr (F34l3) 48 (itr (F34l2 p0 k1) 64 [0, 0, 0, 0, 0, 0, 0, 0, 0, 0, 0, 0, 0, 0, 0, 0, 0, 0, 0, 0, 0, 0, 0, 0, 0, 0, 0, 0, 0, 0, 0, 0, 0, 0, 0, 0, 0, 0, 0, 0, 0, 0, 0, 0, 0, 0, 0, 0, 0, 0, 0, 0, 0, 0, 0, 0, 0, 0, 0, 0, 0, 0, 0, 0]))), (80, .ints .u8 (F49w64n0 p0) (F49w64 p0)), (16, .ints .u32 8 z1), (0, .ints .u8 32 [0, 0, 0, 0, 0, 0, 0, 0, 0, 0, 0, 0, 0, 0, 0, 0, 0, 0, 0, 0, 0, 0, 0, 0, 0, 0, 0, 0, 0, 0, 0, 0])])
                  1184 (by kernel_rfl) rfl (by kernel_rfl) (⟨⟨trivial, trivial⟩, ⟨⟨trivial, trivial⟩, ⟨⟨⟨trivial, trivial⟩, trivial⟩, ⟨⟨trivial, trivial⟩, ⟨⟨⟨trivial, trivial⟩, trivial⟩, ⟨⟨trivial, trivial⟩, ⟨⟨trivial, trivial⟩, ⟨⟨⟨trivial, trivial⟩, trivial⟩, ⟨⟨trivial, trivial⟩, ⟨⟨trivial, trivial⟩, ⟨⟨trivial, trivial⟩, ⟨⟨trivial, trivial⟩, ⟨⟨trivial, trivial⟩, ⟨⟨trivial, trivial⟩, ⟨⟨trivial, trivial⟩, ⟨⟨trivial, trivial⟩, ⟨⟨trivial, trivial⟩, ⟨⟨trivial, trivial⟩, ⟨⟨trivial, trivial⟩, ⟨⟨trivial, trivial⟩, ⟨⟨(by first | omega | (rw [adr_eq]; omega) | exact iAnd_nn _ _ | exact iSub_nn _ _ | exact part1_le (by omega) (by first | omega | (simp only [List.length_append]; omega)) | (rw [iMul_i64 (by omega) (by omega)]; omega) | decide), trivial⟩, ⟨⟨(by first | omega | (rw [adr_eq]; omega) | exact iAnd_nn _ _ | exact iSub_nn _ _ | exact part1_le (by omega) (by first | omega | (simp only [List.length_append]; omega)) | (rw [iMul_i64 (by omega) (by omega)]; omega) | decide), trivial⟩, ⟨⟨(by first | omega | (rw [adr_eq]; omega) | exact iAnd_nn _ _ | exact iSub_nn _ _ | exact part1_le (by omega) (by first | omega | (simp only [List.length_append]; omega)) | (rw [iMul_i64 (by omega) (by omega)]; omega) | decide), trivial⟩, ⟨⟨trivial, trivial⟩, ⟨⟨trivial, trivial⟩, ⟨⟨trivial, trivial⟩, ⟨⟨(by first | omega | (rw [adr_eq]; omega) | exact iAnd_nn _ _ | exact iSub_nn _ _ | exact part1_le (by omega) (by first | omega | (simp only [List.length_append]; omega)) | (rw [iMul_i64 (by omega) (by omega)]; omega) | decide), trivial⟩, ⟨⟨(by first | omega | (rw [adr_eq]; omega) | exact iAnd_nn _ _ | exact iSub_nn _ _ | exact part1_le (by omega) (by first | omega | (simp only [List.length_append]; omega)) | (rw [iMul_i64 (by omega) (by omega)]; omega) | decide), trivial⟩, ⟨⟨trivial, trivial⟩, ⟨⟨trivial, trivial⟩, trivial⟩⟩⟩⟩⟩⟩⟩⟩⟩⟩⟩⟩⟩⟩⟩⟩⟩⟩⟩⟩⟩⟩⟩⟩⟩⟩⟩⟩⟩⟩) ?_
              refine Tri.seq_region [] none [21, 20, 119, 17, 16, 15, 14, 13, 12, 11, 6, 5, 3, 2] [160, 80, 16, 0] ((True ∧ True) ∧ (((True ∧ True) ∧ True) ∧ ((True ∧ True) ∧ (((True ∧ True) ∧ True) ∧ ((True ∧ True) ∧ ((True ∧ True) ∧ (((True ∧ True) ∧ True) ∧ ((True ∧ True) ∧ ((True ∧ True) ∧ ((True ∧ True) ∧ ((True ∧ True) ∧ ((True ∧ True) ∧ ((True ∧ True) ∧ ((True ∧ True) ∧ ((True ∧ True) ∧ ((True ∧ True) ∧ ((True ∧ True) ∧ ((True ∧ True) ∧ ((True ∧ True) ∧ ((True ∧ True) ∧ ((True ∧ True) ∧ True)))))))))))))))))))))
                  ([(21, .sc (.i .u32 (iAdd .u32 (iXor .u32 (iXor .u32 (F50 z4.2.2.2.2.2.2.2 30) (F50 z4.2.2.2.2.2.2.2 19)) (F50 z4.2.2.2.2.2.2.2 10)) (iXor .u32 (iXor .u32 (iAnd .u32 z4.2.2.2.2.2.2.2 z4.2.2.2.2.2.2.1) (iAnd .u32 z4.2.2.2.2.2.2.2 z4.2.2.2.2.2.1)) (iAnd .u32 z4.2.2.2.2.2.2.1 z4.2.2.2.2.2.1))))), (20, .sc (.i .u32 (iAdd .u32 (iAdd .u32 (iAdd .u32 (iAdd .u32 z4.1 (iXor .u32 (iXor .u32 (F50 z4.2.2.2.1 26) (F50 z4.2.2.2.1 21)) (F50 z4.2.2.2.1 7))) (iXor .u32 (iAnd .u32 z4.2.2.2.1 z4.2.2.1) (iAnd .u32 (iNot .u32 z4.2.2.2.1) z4.2.1))) (IntKind.wrap .u32 (iShr .u64 (gSteps.getD (0 + k4) 0) 32))) ((itr (F34l3) 48 (itr (F34l2 p0 k1) 64 [0, 0, 0, 0, 0, 0, 0, 0, 0, 0, 0, 0, 0, 0, 0, 0, 0, 0, 0, 0, 0, 0, 0, 0, 0, 0, 0, 0, 0, 0, 0, 0, 0, 0, 0, 0, 0, 0, 0, 0, 0, 0, 0, 0, 0, 0, 0, 0, 0, 0, 0, 0, 0, 0, 0, 0, 0, 0, 0, 0, 0, 0, 0, 0])).getD k4 0)))), (119, .sc (.i .i64 ((k4 : Nat) : Int))), (17, .sc (.i .u32 z4.2.1)), (16, .sc (.i .u32 z4.2.2.1)), (15, .sc (.i .u32 z4.2.2.2.1)), (14, .sc (.i .u32 z4.2.2.2.2.1)), (13, .sc (.i .u32 z4.2.2.2.2.2.1)), (12, .sc (.i .u32 z4.2.2.2.2.2.2.1)), (11, .sc (.i .u32 z4.2.2.2.2.2.2.2)), (6, .sc (.p 160 0)), (5, .sc (.sl 80 (0 + (64 * k1)) ((F49w64n0 p0) - (64 * k1)) 1 none)), (3, .sc (.p 16 0)), (2, .sc (.p 0 0))], [(160, .ints .u32 64 (itr (F34l3) 48 (itr (F34l2 p0 k1) 64 [0, 0, 0, 0, 0, 0, 0, 0, 0, 0, 0, 0, 0, 0, 0, 0, 0, 0, 0, 0, 0, 0, 0, 0, 0, 0, 0, 0, 0, 0, 0, 0, 0, 0, 0, 0, 0, 0, 0, 0, 0, 0, 0, 0, 0, 0, 0, 0, 0, 0, 0, 0, 0, 0, 0, 0, 0, 0, 0, 0, 0, 0, 0, 0]))), (80, .ints .u8 (F49w64n0 p0) (F49w64 p0)), (16, .ints .u32 8 z1), (0, .ints .u8 32 [0, 0, 0, 0, 0, 0, 0, 0, 0, 0, 0, 0, 0, 0, 0, 0, 0, 0, 0, 0, 0, 0, 0, 0, 0, 0, 0, 0, 0, 0, 0, 0])])
                  1520 (by kernel_rfl) rfl (by kernel_rfl) (⟨⟨trivial, trivial⟩, ⟨⟨⟨trivial, trivial⟩, trivial⟩, ⟨⟨trivial, trivial⟩, ⟨⟨⟨trivial, trivial⟩, trivial⟩, ⟨⟨trivial, trivial⟩, ⟨⟨trivial, trivial⟩, ⟨⟨⟨trivial, trivial⟩, trivial⟩, ⟨⟨trivial, trivial⟩, ⟨⟨trivial, trivial⟩, ⟨⟨trivial, trivial⟩, ⟨⟨trivial, trivial⟩, ⟨⟨trivial, trivial⟩, ⟨⟨trivial, trivial⟩, ⟨⟨trivial, trivial⟩, ⟨⟨trivial, trivial⟩, ⟨⟨trivial, trivial⟩, ⟨⟨trivial, trivial⟩, ⟨⟨trivial, trivial⟩, ⟨⟨trivial, trivial⟩, ⟨⟨trivial, trivial⟩, ⟨⟨trivial, trivial⟩, trivial⟩⟩⟩⟩⟩⟩⟩⟩⟩⟩⟩⟩⟩⟩⟩⟩⟩⟩⟩⟩⟩) ?_
              refine Tri.region' [] none [18, 17, 16, 15, 14, 13, 12, 11, 119, 6, 5, 3, 2] [160, 80, 16, 0] ((True ∧ True) ∧ ((True ∧ True) ∧ ((True ∧ True) ∧ ((True ∧ True) ∧ ((True ∧ True) ∧ ((True ∧ True) ∧ ((True ∧ True) ∧ ((True ∧ True) ∧ ((True ∧ True) ∧ ((True ∧ True) ∧ ((True ∧ True) ∧ ((True ∧ True) ∧ ((True ∧ True) ∧ ((True ∧ True) ∧ ((True ∧ True) ∧ ((True ∧ True) ∧ ((True ∧ True) ∧ ((True ∧ True) ∧ ((True ∧ True) ∧ ((True ∧ True) ∧ True))))))))))))))))))))
                  ([(18, .sc (.i .u32 z4.2.1)), (17, .sc (.i .u32 z4.2.2.1)), (16, .sc (.i .u32 z4.2.2.2.1)), (15, .sc (.i .u32 (iAdd .u32 z4.2.2.2.2.1 (iAdd .u32 (iAdd .u32 (iAdd .u32 (iAdd .u32 z4.1 (iXor .u32 (iXor .u32 (F50 z4.2.2.2.1 26) (F50 z4.2.2.2.1 21)) (F50 z4.2.2.2.1 7))) (iXor .u32 (iAnd .u32 z4.2.2.2.1 z4.2.2.1) (iAnd .u32 (iNot .u32 z4.2.2.2.1) z4.2.1))) (IntKind.wrap .u32 (iShr .u64 (gSteps.getD (0 + k4) 0) 32))) ((itr (F34l3) 48 (itr (F34l2 p0 k1) 64 [0, 0, 0, 0, 0, 0, 0, 0, 0, 0, 0, 0, 0, 0, 0, 0, 0, 0, 0, 0, 0, 0, 0, 0, 0, 0, 0, 0, 0, 0, 0, 0, 0, 0, 0, 0, 0, 0, 0, 0, 0, 0, 0, 0, 0, 0, 0, 0, 0, 0, 0, 0, 0, 0, 0, 0, 0, 0, 0, 0, 0, 0, 0, 0])).getD k4 0))))), (14, .sc (.i .u32 z4.2.2.2.2.2.1)), (13, .sc (.i .u32 z4.2.2.2.2.2.2.1)), (12, .sc (.i .u32 z4.2.2.2.2.2.2.2)), (11, .sc (.i .u32 (iAdd .u32 (iAdd .u32 (iAdd .u32 (iAdd .u32 (iAdd .u32 z4.1 (iXor .u32 (iXor .u32 (F50 z4.2.2.2.1 26) (F50 z4.2.2.2.1 21)) (F50 z4.2.2.2.1 7))) (iXor .u32 (iAnd .u32 z4.2.2.2.1 z4.2.2.1) (iAnd .u32 (iNot .u32 z4.2.2.2.1) z4.2.1))) (IntKind.wrap .u32 (iShr .u64 (gSteps.getD (0 + k4) 0) 32))) ((itr (F34l3) 48 (itr (F34l2 p0 k1) 64 [0, 0, 0, 0, 0, 0, 0, 0, 0, 0, 0, 0, 0, 0, 0, 0, 0, 0, 0, 0, 0, 0, 0, 0, 0, 0, 0, 0, 0, 0, 0, 0, 0, 0, 0, 0, 0, 0, 0, 0, 0, 0, 0, 0, 0, 0, 0, 0, 0, 0, 0, 0, 0, 0, 0, 0, 0, 0, 0, 0, 0, 0, 0, 0])).getD k4 0)) (iAdd .u32 (iXor .u32 (iXor .u32 (F50 z4.2.2.2.2.2.2.2 30) (F50 z4.2.2.2.2.2.2.2 19)) (F50 z4.2.2.2.2.2.2.2 10)) (iXor .u32 (iXor .u32 (iAnd .u32 z4.2.2.2.2.2.2.2 z4.2.2.2.2.2.2.1) (iAnd .u32 z4.2.2.2.2.2.2.2 z4.2.2.2.2.2.1)) (iAnd .u32 z4.2.2.2.2.2.2.1 z4.2.2.2.2.2.1)))))), (119, .sc (.i .i64 ((k4 : Nat) : Int))), (6, .sc (.p 160 0)), (5, .sc (.sl 80 (0 + (64 * k1)) ((F49w64n0 p0) - (64 * k1)) 1 none)), (3, .sc (.p 16 0)), (2, .sc (.p 0 0))], [(160, .ints .u32 64 (itr (F34l3) 48 (itr (F34l2 p0 k1) 64 [0, 0, 0, 0, 0, 0, 0, 0, 0, 0, 0, 0, 0, 0, 0, 0, 0, 0, 0, 0, 0, 0, 0, 0, 0, 0, 0, 0, 0, 0, 0, 0, 0, 0, 0, 0, 0, 0, 0, 0, 0, 0, 0, 0, 0, 0, 0, 0, 0, 0, 0, 0, 0, 0, 0, 0, 0, 0, 0, 0, 0, 0, 0, 0]))), (80, .ints .u8 (F49w64n0 p0) (F49w64 p0)), (16, .ints .u32 8 z1), (0, .ints .u8 32 [0, 0, 0, 0, 0, 0, 0, 0, 0, 0, 0, 0, 0, 0, 0, 0, 0, 0, 0, 0, 0, 0, 0, 0, 0, 0, 0, 0, 0, 0, 0, 0])])
                  1840 (by kernel_rfl) rfl (by kernel_rfl) (⟨⟨trivial, trivial⟩, ⟨⟨trivial, trivial⟩, ⟨⟨trivial, trivial⟩, ⟨⟨trivial, trivial⟩, ⟨⟨trivial, trivial⟩, ⟨⟨trivial, trivial⟩, ⟨⟨trivial, trivial⟩, ⟨⟨trivial, trivial⟩, ⟨⟨trivial, trivial⟩, ⟨⟨trivial, trivial⟩, ⟨⟨trivial, trivial⟩, ⟨⟨trivial, trivial⟩, ⟨⟨trivial, trivial⟩, ⟨⟨trivial, trivial⟩, ⟨⟨trivial, trivial⟩, ⟨⟨trivial, trivial⟩, ⟨⟨trivial, trivial⟩, ⟨⟨trivial, trivial⟩, ⟨⟨trivial, trivial⟩, ⟨⟨trivial, trivial⟩, trivial⟩⟩⟩⟩⟩⟩⟩⟩⟩⟩⟩⟩⟩⟩⟩⟩⟩⟩⟩⟩) ?_
              change Tri _ _ _ _ _ _
              refine Tri.region' [(183, .i .i64 ((k4 + 1 : Nat) : Int))] none [119, 18, 17, 16, 15, 14, 13, 12, 11, 6, 5, 3, 2] [160, 80, 16, 0] ((True ∧ ((iAdd .i64 ((k4 : Nat) : Int) 1) = ((k4 + 1 : Nat) : Int))) ∧ ((True ∧ True) ∧ True))
                  ([(119, .sc (.i .i64 ((k4 + 1 : Nat) : Int))), (18, .sc (.i .u32 z4.2.1)), (17, .sc (.i .u32 z4.2.2.1)), (16, .sc (.i .u32 z4.2.2.2.1)), (15, .sc (.i .u32 (iAdd .u32 z4.2.2.2.2.1 (iAdd .u32 (iAdd .u32 (iAdd .u32 (iAdd .u32 z4.1 (iXor .u32 (iXor .u32 (F50 z4.2.2.2.1 26) (F50 z4.2.2.2.1 21)) (F50 z4.2.2.2.1 7))) (iXor .u32 (iAnd .u32 z4.2.2.2.1 z4.2.2.1) (iAnd .u32 (iNot .u32 z4.2.2.2.1) z4.2.1))) (IntKind.wrap .u32 (iShr .u64 (gSteps.getD (0 + k4) 0) 32))) ((itr (F34l3) 48 (itr (F34l2 p0 k1) 64 [0, 0, 0, 0, 0, 0, 0, 0, 0, 0, 0, 0, 0, 0, 0, 0, 0, 0, 0, 0, 0, 0, 0, 0, 0, 0, 0, 0, 0, 0, 0, 0, 0, 0, 0, 0, 0, 0, 0, 0, 0, 0, 0, 0, 0, 0, 0, 0, 0, 0, 0, 0, 0, 0, 0, 0, 0, 0, 0, 0, 0, 0, 0, 0])).getD k4 0))))), (14, .sc (.i .u32 z4.2.2.2.2.2.1)), (13, .sc (.i .u32 z4.2.2.2.2.2.2.1)), (12, .sc (.i .u32 z4.2.2.2.2.2.2.2)), (11, .sc (.i .u32 (iAdd .u32 (iAdd .u32 (iAdd .u32 (iAdd .u32 (iAdd .u32 z4.1 (iXor .u32 (iXor .u32 (F50 z4.2.2.2.1 26) (F50 z4.2.2.2.1 21)) (F50 z4.2.2.2.1 7))) (iXor .u32 (iAnd .u32 z4.2.2.2.1 z4.2.2.1) (iAnd .u32 (iNot .u32 z4.2.2.2.1) z4.2.1))) (IntKind.wrap .u32 (iShr .u64 (gSteps.getD (0 + k4) 0) 32))) ((itr (F34l3) 48 (itr (F34l2 p0 k1) 64 [0, 0, 0, 0, 0, 0, 0, 0, 0, 0, 0, 0, 0, 0, 0, 0, 0, 0, 0, 0, 0, 0, 0, 0, 0, 0, 0, 0, 0, 0, 0, 0, 0, 0, 0, 0, 0, 0, 0, 0, 0, 0, 0, 0, 0, 0, 0, 0, 0, 0, 0, 0, 0, 0, 0, 0, 0, 0, 0, 0, 0, 0, 0, 0])).getD k4 0)) (iAdd .u32 (iXor .u32 (iXor .u32 (F50 z4.2.2.2.2.2.2.2 30) (F50 z4.2.2.2.2.2.2.2 19)) (F50 z4.2.2.2.2.2.2.2 10)) (iXor .u32 (iXor .u32 (iAnd .u32 z4.2.2.2.2.2.2.2 z4.2.2.2.2.2.2.1) (iAnd .u32 z4.2.2.2.2.2.2.2 z4.2.2.2.2.2.1)) (iAnd .u32 z4.2.2.2.2.2.2.1 z4.2.2.2.2.2.1)))))), (6, .sc (.p 160 0)), (5, .sc (.sl 80 (0 + (64 * k1)) ((F49w64n0 p0) - (64 * k1)) 1 none)), (3, .sc (.p 16 0)), (2, .sc (.p 0 0))], [(160, .ints .u32 64 (itr (F34l3) 48 (itr (F34l2 p0 k1) 64 [0, 0, 0, 0, 0, 0, 0, 0, 0, 0, 0, 0, 0, 0, 0, 0, 0, 0, 0, 0, 0, 0, 0, 0, 0, 0, 0, 0, 0, 0, 0, 0, 0, 0, 0, 0, 0, 0, 0, 0, 0, 0, 0, 0, 0, 0, 0, 0, 0, 0, 0, 0, 0, 0, 0, 0, 0, 0, 0, 0, 0, 0, 0, 0]))), (80, .ints .u8 (F49w64n0 p0) (F49w64 p0)), (16, .ints .u32 8 z1), (0, .ints .u8 32 [0, 0, 0, 0, 0, 0, 0, 0, 0, 0, 0, 0, 0, 0, 0, 0, 0, 0, 0, 0, 0, 0, 0, 0, 0, 0, 0, 0, 0, 0, 0, 0])])
                  1872 (by kernel_rfl) rfl (by kernel_rfl) (⟨⟨trivial, (iAdd_nat (a := k4) (b := 1) (by omega))⟩, ⟨⟨trivial, trivial⟩, trivial⟩⟩) ?_
              repeat (refine blkP_normal ?_)
              refine countP_normal (by omega) trivial ?_
              exact Sub.ren (ns := [(160, 160), (80, 80), (16, 16), (0, 0)]) (kf := [119, 18, 17, 16, 15, 14, 13, 12, 11, 6, 5, 3, 2]) (by kernel_rfl) (by kernel_rfl)
            ·
              have h19' := of_decide_eq_false h19
              refine Tri.exit ?_
              have hend4 : k4 = 64 := by (have := of_decide_eq_false h19; omega)
              subst hend4; subst hz4
              change Tri _ _ _ _ _ _
              refine Tri.len 160 rfl (fun hl23 => ?_)
              refine Tri.len 80 rfl (fun hl24 => ?_)
              refine Tri.len 16 rfl (fun hl25 => ?_)
              refine Tri.seq_region [] none [193, 192, 5, 3, 2] [80, 16, 0] ((True ∧ True) ∧ ((True ∧ True) ∧ ((True ∧ True) ∧ ((True ∧ True) ∧ ((True ∧ True) ∧ ((True ∧ True) ∧ ((True ∧ True) ∧ ((True ∧ True) ∧ (((((0 < 8) ∧ (1 = 1)) ∧ (((1 < 8) ∧ (1 = 1)) ∧ (((2 < 8) ∧ (1 = 1)) ∧ (((3 < 8) ∧ (1 = 1)) ∧ (((4 < 8) ∧ (1 = 1)) ∧ (((5 < 8) ∧ (1 = 1)) ∧ (((6 < 8) ∧ (1 = 1)) ∧ (((7 < 8) ∧ (1 = 1)) ∧ True)))))))) ∧ True) ∧ ((True ∧ True) ∧ True))))))))))
                  ([(193, .sc (.i .i64 0)), (192, .ints .u32 8 [(itr (F34l4 p0 k1) 64 (z1.getD 7 0, z1.getD 6 0, z1.getD 5 0, z1.getD 4 0, z1.getD 3 0, z1.getD 2 0, z1.getD 1 0, z1.getD 0 0)).2.2.2.2.2.2.2, (itr (F34l4 p0 k1) 64 (z1.getD 7 0, z1.getD 6 0, z1.getD 5 0, z1.getD 4 0, z1.getD 3 0, z1.getD 2 0, z1.getD 1 0, z1.getD 0 0)).2.2.2.2.2.2.1, (itr (F34l4 p0 k1) 64 (z1.getD 7 0, z1.getD 6 0, z1.getD 5 0, z1.getD 4 0, z1.getD 3 0, z1.getD 2 0, z1.getD 1 0, z1.getD 0 0)).2.2.2.2.2.1, (itr (F34l4 p0 k1) 64 (z1.getD 7 0, z1.getD 6 0, z1.getD 5 0, z1.getD 4 0, z1.getD 3 0, z1.getD 2 0, z1.getD 1 0, z1.getD 0 0)).2.2.2.2.1, (itr (F34l4 p0 k1) 64 (z1.getD 7 0, z1.getD 6 0, z1.getD 5 0, z1.getD 4 0, z1.getD 3 0, z1.getD 2 0, z1.getD 1 0, z1.getD 0 0)).2.2.2.1, (itr (F34l4 p0 k1) 64 (z1.getD 7 0, z1.getD 6 0, z1.getD 5 0, z1.getD 4 0, z1.getD 3 0, z1.getD 2 0, z1.getD 1 0, z1.getD 0 0)).2.2.1, (itr (F34l4 p0 k1) 64 (z1.getD 7 0, z1.getD 6 0, z1.getD 5 0, z1.getD 4 0, z1.getD 3 0, z1.getD 2 0, z1.getD 1 0, z1.getD 0 0)).2.1, (itr (F34l4 p0 k1) 64 (z1.getD 7 0, z1.getD 6 0, z1.getD 5 0, z1.getD 4 0, z1.getD 3 0, z1.getD 2 0, z1.getD 1 0, z1.getD 0 0)).1]), (5, .sc (.sl 80 (0 + (64 * k1)) ((F49w64n0 p0) - (64 * k1)) 1 none)), (3, .sc (.p 16 0)), (2, .sc (.p 0 0))], [(80, .ints .u8 (F49w64n0 p0) (F49w64 p0)), (16, .ints .u32 8 z1), (0, .ints .u8 32 [0, 0, 0, 0, 0, 0, 0, 0, 0, 0, 0, 0, 0, 0, 0, 0, 0, 0, 0, 0, 0, 0, 0, 0, 0, 0, 0, 0, 0, 0, 0, 0])])
                  832 (by kernel_rfl) rfl (by kernel_rfl) (⟨⟨trivial, trivial⟩, ⟨⟨trivial, trivial⟩, ⟨⟨trivial, trivial⟩, ⟨⟨trivial, trivial⟩, ⟨⟨trivial, trivial⟩, ⟨⟨trivial, trivial⟩, ⟨⟨trivial, trivial⟩, ⟨⟨trivial, trivial⟩, ⟨⟨⟨⟨(by first | omega | (rw [adr_eq]; omega) | exact iAnd_nn _ _ | exact iSub_nn _ _ | exact part1_le (by omega) (by first | omega | (simp only [List.length_append]; omega)) | (rw [iMul_i64 (by omega) (by omega)]; omega) | decide), (rfl)⟩, ⟨⟨(by first | omega | (rw [adr_eq]; omega) | exact iAnd_nn _ _ | exact iSub_nn _ _ | exact part1_le (by omega) (by first | omega | (simp only [List.length_append]; omega)) | (rw [iMul_i64 (by omega) (by omega)]; omega) | decide), (rfl)⟩, ⟨⟨(by first | omega | (rw [adr_eq]; omega) | exact iAnd_nn _ _ | exact iSub_nn _ _ | exact part1_le (by omega) (by first | omega | (simp only [List.length_append]; omega)) | (rw [iMul_i64 (by omega) (by omega)]; omega) | decide), (rfl)⟩, ⟨⟨(by first | omega | (rw [adr_eq]; omega) | exact iAnd_nn _ _ | exact iSub_nn _ _ | exact part1_le (by omega) (by first | omega | (simp only [List.length_append]; omega)) | (rw [iMul_i64 (by omega) (by omega)]; omega) | decide), (rfl)⟩, ⟨⟨(by first | omega | (rw [adr_eq]; omega) | exact iAnd_nn _ _ | exact iSub_nn _ _ | exact part1_le (by omega) (by first | omega | (simp only [List.length_append]; omega)) | (rw [iMul_i64 (by omega) (by omega)]; omega) | decide), (rfl)⟩, ⟨⟨(by first | omega | (rw [adr_eq]; omega) | exact iAnd_nn _ _ | exact iSub_nn _ _ | exact part1_le (by omega) (by first | omega | (simp only [List.length_append]; omega)) | (rw [iMul_i64 (by omega) (by omega)]; omega) | decide), (rfl)⟩, ⟨⟨(by first | omega | (rw [adr_eq]; omega) | exact iAnd_nn _ _ | exact iSub_nn _ _ | exact part1_le (by omega) (by first | omega | (simp only [List.length_append]; omega)) | (rw [iMul_i64 (by omega) (by omega)]; omega) | decide), (rfl)⟩, ⟨⟨(by first | omega | (rw [adr_eq]; omega) | exact iAnd_nn _ _ | exact iSub_nn _ _ | exact part1_le (by omega) (by first | omega | (simp only [List.length_append]; omega)) | (rw [iMul_i64 (by omega) (by omega)]; omega) | decide), (rfl)⟩, trivial⟩⟩⟩⟩⟩⟩⟩⟩, trivial⟩, ⟨⟨trivial, trivial⟩, trivial⟩⟩⟩⟩⟩⟩⟩⟩⟩⟩) ?_
              refine Tri.block ?_
              refine Tri.count 832 8 (F34l5 p0 k1 z1) z1 (fun k5 z5 => True) (fun k5 z5 => ([(193, .sc (.i .i64 ((k5 : Nat) : Int))), (192, .ints .u32 8 [(itr (F34l4 p0 k1) 64 (z1.getD 7 0, z1.getD 6 0, z1.getD 5 0, z1.getD 4 0, z1.getD 3 0, z1.getD 2 0, z1.getD 1 0, z1.getD 0 0)).2.2.2.2.2.2.2, (itr (F34l4 p0 k1) 64 (z1.getD 7 0, z1.getD 6 0, z1.getD 5 0, z1.getD 4 0, z1.getD 3 0, z1.getD 2 0, z1.getD 1 0, z1.getD 0 0)).2.2.2.2.2.2.1, (itr (F34l4 p0 k1) 64 (z1.getD 7 0, z1.getD 6 0, z1.getD 5 0, z1.getD 4 0, z1.getD 3 0, z1.getD 2 0, z1.getD 1 0, z1.getD 0 0)).2.2.2.2.2.1, (itr (F34l4 p0 k1) 64 (z1.getD 7 0, z1.getD 6 0, z1.getD 5 0, z1.getD 4 0, z1.getD 3 0, z1.getD 2 0, z1.getD 1 0, z1.getD 0 0)).2.2.2.2.1, (itr (F34l4 p0 k1) 64 (z1.getD 7 0, z1.getD 6 0, z1.getD 5 0, z1.getD 4 0, z1.getD 3 0, z1.getD 2 0, z1.getD 1 0, z1.getD 0 0)).2.2.2.1, (itr (F34l4 p0 k1) 64 (z1.getD 7 0, z1.getD 6 0, z1.getD 5 0, z1.getD 4 0, z1.getD 3 0, z1.getD 2 0, z1.getD 1 0, z1.getD 0 0)).2.2.1, (itr (F34l4 p0 k1) 64 (z1.getD 7 0, z1.getD 6 0, z1.getD 5 0, z1.getD 4 0, z1.getD 3 0, z1.getD 2 0, z1.getD 1 0, z1.getD 0 0)).2.1, (itr (F34l4 p0 k1) 64 (z1.getD 7 0, z1.getD 6 0, z1.getD 5 0, z1.getD 4 0, z1.getD 3 0, z1.getD 2 0, z1.getD 1 0, z1.getD 0 0)).1]), (5, .sc (.sl 80 (0 + (64 * k1)) ((F49w64n0 p0) - (64 * k1)) 1 none)), (3, .sc (.p 16 0)), (2, .sc (.p 0 0))], [(80, .ints .u8 (F49w64n0 p0) (F49w64 p0)), (16, .ints .u32 8 z5), (0, .ints .u8 32 [0, 0, 0, 0, 0, 0, 0, 0, 0, 0, 0, 0, 0, 0, 0, 0, 0, 0, 0, 0, 0, 0, 0, 0, 0, 0, 0, 0, 0, 0, 0, 0])])) trivial (Sub.of_eq (by kernel_rfl)) ?_
              intro k5 z5 hk5 hz5 hJ5
              refine Tri.seq_region [] none [194, 193, 192, 5, 3, 2] [80, 16, 0] ((True ∧ True) ∧ True)
                  ([(194, .sc (.b (decide ((((k5 : Nat) : Int) : Int) < 8)))), (193, .sc (.i .i64 ((k5 : Nat) : Int))), (192, .ints .u32 8 [(itr (F34l4 p0 k1) 64 (z1.getD 7 0, z1.getD 6 0, z1.getD 5 0, z1.getD 4 0, z1.getD 3 0, z1.getD 2 0, z1.getD 1 0, z1.getD 0 0)).2.2.2.2.2.2.2, (itr (F34l4 p0 k1) 64 (z1.getD 7 0, z1.getD 6 0, z1.getD 5 0, z1.getD 4 0, z1.getD 3 0, z1.getD 2 0, z1.getD 1 0, z1.getD 0 0)).2.2.2.2.2.2.1, (itr (F34l4 p0 k1) 64 (z1.getD 7 0, z1.getD 6 0, z1.getD 5 0, z1.getD 4 0, z1.getD 3 0, z1.getD 2 0, z1.getD 1 0, z1.getD 0 0)).2.2.2.2.2.1, (itr (F34l4 p0 k1) 64 (z1.getD 7 0, z1.getD 6 0, z1.getD 5 0, z1.getD 4 0, z1.getD 3 0, z1.getD 2 0, z1.getD 1 0, z1.getD 0 0)).2.2.2.2.1, (itr (F34l4 p0 k1) 64 (z1.getD 7 0, z1.getD 6 0, z1.getD 5 0, z1.getD 4 0, z1.getD 3 0, z1.getD 2 0, z1.getD 1 0, z1.getD 0 0)).2.2.2.1, (itr (F34l4 p0 k1) 64 (z1.getD 7 0, z1.getD 6 0, z1.getD 5 0, z1.getD 4 0, z1.getD 3 0, z1.getD 2 0, z1.getD 1 0, z1.getD 0 0)).2.2.1, (itr (F34l4 p0 k1) 64 (z1.getD 7 0, z1.getD 6 0, z1.getD 5 0, z1.getD 4 0, z1.getD 3 0, z1.getD 2 0, z1.getD 1 0, z1.getD 0 0)).2.1, (itr (F34l4 p0 k1) 64 (z1.getD 7 0, z1.getD 6 0, z1.getD 5 0, z1.getD 4 0, z1.getD 3 0, z1.getD 2 0, z1.getD 1 0, z1.getD 0 0)).1]), (5, .sc (.sl 80 (0 + (64 * k1)) ((F49w64n0 p0) - (64 * k1)) 1 none)), (3, .sc (.p 16 0)), (2, .sc (.p 0 0))], [(80, .ints .u8 (F49w64n0 p0) (F49w64 p0)), (16, .ints .u32 8 z5), (0, .ints .u8 32 [0, 0, 0, 0, 0, 0, 0, 0, 0, 0, 0, 0, 0, 0, 0, 0, 0, 0, 0, 0, 0, 0, 0, 0, 0, 0, 0, 0, 0, 0, 0, 0])])
                  848 (by kernel_rfl) rfl (by kernel_rfl) (⟨⟨trivial, trivial⟩, trivial⟩) ?_
              refine Tri.seq ?_
              refine Tri.cond (x := (decide ((((k5 : Nat) : Int) : Int) < 8))) (by kernel_rfl) (fun h26 => ?_) (fun h26 => ?_)
              ·
                have h26' := of_decide_eq_true h26
                refine Tri.skip ?_
                change Tri _ _ _ _ _ _
                refine Tri.seq ?_
                refine Tri.block ?_
                refine Tri.len 80 rfl (fun hl27 => ?_)
                refine Tri.len 16 rfl (fun hl28 => ?_)
                refine Tri.seq_region [] none [23, 22, 193, 192, 5, 3, 2] [80, 16, 0] ((True ∧ True) ∧ (((((0 : Int) ≤ ((k5 : Nat) : Int) ∧ ((k5 : Nat) : Int) < ((8 : Nat) : Int)) ∧ (k5 < 8)) ∧ True) ∧ ((True ∧ True) ∧ ((True ∧ True) ∧ True))))
                    ([(23, .sc (.i .u32 ([(itr (F34l4 p0 k1) 64 (z1.getD 7 0, z1.getD 6 0, z1.getD 5 0, z1.getD 4 0, z1.getD 3 0, z1.getD 2 0, z1.getD 1 0, z1.getD 0 0)).2.2.2.2.2.2.2, (itr (F34l4 p0 k1) 64 (z1.getD 7 0, z1.getD 6 0, z1.getD 5 0, z1.getD 4 0, z1.getD 3 0, z1.getD 2 0, z1.getD 1 0, z1.getD 0 0)).2.2.2.2.2.2.1, (itr (F34l4 p0 k1) 64 (z1.getD 7 0, z1.getD 6 0, z1.getD 5 0, z1.getD 4 0, z1.getD 3 0, z1.getD 2 0, z1.getD 1 0, z1.getD 0 0)).2.2.2.2.2.1, (itr (F34l4 p0 k1) 64 (z1.getD 7 0, z1.getD 6 0, z1.getD 5 0, z1.getD 4 0, z1.getD 3 0, z1.getD 2 0, z1.getD 1 0, z1.getD 0 0)).2.2.2.2.1, (itr (F34l4 p0 k1) 64 (z1.getD 7 0, z1.getD 6 0, z1.getD 5 0, z1.getD 4 0, z1.getD 3 0, z1.getD 2 0, z1.getD 1 0, z1.getD 0 0)).2.2.2.1, (itr (F34l4 p0 k1) 64 (z1.getD 7 0, z1.getD 6 0, z1.getD 5 0, z1.getD 4 0, z1.getD 3 0, z1.getD 2 0, z1.getD 1 0, z1.getD 0 0)).2.2.1, (itr (F34l4 p0 k1) 64 (z1.getD 7 0, z1.getD 6 0, z1.getD 5 0, z1.getD 4 0, z1.getD 3 0, z1.getD 2 0, z1.getD 1 0, z1.getD 0 0)).2.1, (itr (F34l4 p0 k1) 64 (z1.getD 7 0, z1.getD 6 0, z1.getD 5 0, z1.getD 4 0, z1.getD 3 0, z1.getD 2 0, z1.getD 1 0, z1.getD 0 0)).1].getD k5 0))), (22, .sc (.i .i64 ((k5 : Nat) : Int))), (193, .sc (.i .i64 ((k5 : Nat) : Int))), (192, .ints .u32 8 [(itr (F34l4 p0 k1) 64 (z1.getD 7 0, z1.getD 6 0, z1.getD 5 0, z1.getD 4 0, z1.getD 3 0, z1.getD 2 0, z1.getD 1 0, z1.getD 0 0)).2.2.2.2.2.2.2, (itr (F34l4 p0 k1) 64 (z1.getD 7 0, z1.getD 6 0, z1.getD 5 0, z1.getD 4 0, z1.getD 3 0, z1.getD 2 0, z1.getD 1 0, z1.getD 0 0)).2.2.2.2.2.2.1, (itr (F34l4 p0 k1) 64 (z1.getD 7 0, z1.getD 6 0, z1.getD 5 0, z1.getD 4 0, z1.getD 3 0, z1.getD 2 0, z1.getD 1 0, z1.getD 0 0)).2.2.2.2.2.1, (itr (F34l4 p0 k1) 64 (z1.getD 7 0, z1.getD 6 0, z1.getD 5 0, z1.getD 4 0, z1.getD 3 0, z1.getD 2 0, z1.getD 1 0, z1.getD 0 0)).2.2.2.2.1, (itr (F34l4 p0 k1) 64 (z1.getD 7 0, z1.getD 6 0, z1.getD 5 0, z1.getD 4 0, z1.getD 3 0, z1.getD 2 0, z1.getD 1 0, z1.getD 0 0)).2.2.2.1, (itr (F34l4 p0 k1) 64 (z1.getD 7 0, z1.getD 6 0, z1.getD 5 0, z1.getD 4 0, z1.getD 3 0, z1.getD 2 0, z1.getD 1 0, z1.getD 0 0)).2.2.1, (itr (F34l4 p0 k1) 64 (z1.getD 7 0, z1.getD 6 0, z1.getD 5 0, z1.getD 4 0, z1.getD 3 0, z1.getD 2 0, z1.getD 1 0, z1.getD 0 0)).2.1, (itr (F34l4 p0 k1) 64 (z1.getD 7 0, z1.getD 6 0, z1.getD 5 0, z1.getD 4 0, z1.getD 3 0, z1.getD 2 0, z1.getD 1 0, z1.getD 0 0)).1]), (5, .sc (.sl 80 (0 + (64 * k1)) ((F49w64n0 p0) - (64 * k1)) 1 none)), (3, .sc (.p 16 0)), (2, .sc (.p 0 0))], [(80, .ints .u8 (F49w64n0 p0) (F49w64 p0)), (16, .ints .u32 8 z5), (0, .ints .u8 32 [0, 0, 0, 0, 0, 0, 0, 0, 0, 0, 0, 0, 0, 0, 0, 0, 0, 0, 0, 0, 0, 0, 0, 0, 0, 0, 0, 0, 0, 0, 0, 0])])
                    912 (by kernel_rfl) rfl (by kernel_rfl) (⟨⟨trivial, trivial⟩, ⟨⟨⟨(by first | omega | (rw [adr_eq]; omega) | exact iAnd_nn _ _ | exact iSub_nn _ _ | exact part1_le (by omega) (by first | omega | (simp only [List.length_append]; omega)) | (rw [iMul_i64 (by omega) (by omega)]; omega) | decide), (by first | omega | (rw [adr_eq]; omega) | exact iAnd_nn _ _ | exact iSub_nn _ _ | exact part1_le (by omega) (by first | omega | (simp only [List.length_append]; omega)) | (rw [iMul_i64 (by omega) (by omega)]; omega) | decide)⟩, trivial⟩, ⟨⟨trivial, trivial⟩, ⟨⟨trivial, trivial⟩, trivial⟩⟩⟩⟩) ?_
                refine Tri.len 80 rfl (fun hl29 => ?_)
                refine Tri.len 16 rfl (fun hl30 => ?_)
                refine Tri.region' [] none [193, 192, 5, 3, 2] [16, 80, 0] ((True ∧ True) ∧ ((((0 : Int) ≤ ((k5 : Nat) : Int) ∧ ((k5 : Nat) : Int) < ((8 : Nat) : Int)) ∧ True) ∧ (((k5 < 8) ∧ True) ∧ ((True ∧ True) ∧ ((True ∧ True) ∧ ((((0 : Int) ≤ ((k5 : Nat) : Int) ∧ ((k5 : Nat) : Int) < ((8 : Nat) : Int)) ∧ True) ∧ ((((k5 < 8) ∧ (1 = 1)) ∧ True) ∧ True)))))))
                    ([(193, .sc (.i .i64 ((k5 : Nat) : Int))), (192, .ints .u32 8 [(itr (F34l4 p0 k1) 64 (z1.getD 7 0, z1.getD 6 0, z1.getD 5 0, z1.getD 4 0, z1.getD 3 0, z1.getD 2 0, z1.getD 1 0, z1.getD 0 0)).2.2.2.2.2.2.2, (itr (F34l4 p0 k1) 64 (z1.getD 7 0, z1.getD 6 0, z1.getD 5 0, z1.getD 4 0, z1.getD 3 0, z1.getD 2 0, z1.getD 1 0, z1.getD 0 0)).2.2.2.2.2.2.1, (itr (F34l4 p0 k1) 64 (z1.getD 7 0, z1.getD 6 0, z1.getD 5 0, z1.getD 4 0, z1.getD 3 0, z1.getD 2 0, z1.getD 1 0, z1.getD 0 0)).2.2.2.2.2.1, (itr (F34l4 p0 k1) 64 (z1.getD 7 0, z1.getD 6 0, z1.getD 5 0, z1.getD 4 0, z1.getD 3 0, z1.getD 2 0, z1.getD 1 0, z1.getD 0 0)).2.2.2.2.1, (itr (F34l4 p0 k1) 64 (z1.getD 7 0, z1.getD 6 0, z1.getD 5 0, z1.getD 4 0, z1.getD 3 0, z1.getD 2 0, z1.getD 1 0, z1.getD 0 0)).2.2.2.1, (itr (F34l4 p0 k1) 64 (z1.getD 7 0, z1.getD 6 0, z1.getD 5 0, z1.getD 4 0, z1.getD 3 0, z1.getD 2 0, z1.getD 1 0, z1.getD 0 0)).2.2.1, (itr (F34l4 p0 k1) 64 (z1.getD 7 0, z1.getD 6 0, z1.getD 5 0, z1.getD 4 0, z1.getD 3 0, z1.getD 2 0, z1.getD 1 0, z1.getD 0 0)).2.1, (itr (F34l4 p0 k1) 64 (z1.getD 7 0, z1.getD 6 0, z1.getD 5 0, z1.getD 4 0, z1.getD 3 0, z1.getD 2 0, z1.getD 1 0, z1.getD 0 0)).1]), (5, .sc (.sl 80 (0 + (64 * k1)) ((F49w64n0 p0) - (64 * k1)) 1 none)), (3, .sc (.p 16 0)), (2, .sc (.p 0 0))], [(16, .ints .u32 8 (z5.set k5 (iAdd .u32 (z5.getD k5 0) ([(itr (F34l4 p0 k1) 64 (z1.getD 7 0, z1.getD 6 0, z1.getD 5 0, z1.getD 4 0, z1.getD 3 0, z1.getD 2 0, z1.getD 1 0, z1.getD 0 0)).2.2.2.2.2.2.2, (itr (F34l4 p0 k1) 64 (z1.getD 7 0, z1.getD 6 0, z1.getD 5 0, z1.getD 4 0, z1.getD 3 0, z1.getD 2 0, z1.getD 1 0, z1.getD 0 0)).2.2.2.2.2.2.1, (itr (F34l4 p0 k1) 64 (z1.getD 7 0, z1.getD 6 0, z1.getD 5 0, z1.getD 4 0, z1.getD 3 0, z1.getD 2 0, z1.getD 1 0, z1.getD 0 0)).2.2.2.2.2.1, (itr (F34l4 p0 k1) 64 (z1.getD 7 0, z1.getD 6 0, z1.getD 5 0, z1.getD 4 0, z1.getD 3 0, z1.getD 2 0, z1.getD 1 0, z1.getD 0 0)).2.2.2.2.1, (itr (F34l4 p0 k1) 64 (z1.getD 7 0, z1.getD 6 0, z1.getD 5 0, z1.getD 4 0, z1.getD 3 0, z1.getD 2 0, z1.getD 1 0, z1.getD 0 0)).2.2.2.1, (itr (F34l4 p0 k1) 64 (z1.getD 7 0, z1.getD 6 0, z1.getD 5 0, z1.getD 4 0, z1.getD 3 0, z1.getD 2 0, z1.getD 1 0, z1.getD 0 0)).2.2.1, (itr (F34l4 p0 k1) 64 (z1.getD 7 0, z1.getD 6 0, z1.getD 5 0, z1.getD 4 0, z1.getD 3 0, z1.getD 2 0, z1.getD 1 0, z1.getD 0 0)).2.1, (itr (F34l4 p0 k1) 64 (z1.getD 7 0, z1.getD 6 0, z1.getD 5 0, z1.getD 4 0, z1.getD 3 0, z1.getD 2 0, z1.getD 1 0, z1.getD 0 0)).1].getD k5 0)))), (80, .ints .u8 (F49w64n0 p0) (F49w64 p0)), (0, .ints .u8 32 [0, 0, 0, 0, 0, 0, 0, 0, 0, 0, 0, 0, 0, 0, 0, 0, 0, 0, 0, 0, 0, 0, 0, 0, 0, 0, 0, 0, 0, 0, 0, 0])])
                    1024 (by kernel_rfl) rfl (by kernel_rfl) (⟨⟨trivial, trivial⟩, ⟨⟨(by first | omega | (rw [adr_eq]; omega) | exact iAnd_nn _ _ | exact iSub_nn _ _ | exact part1_le (by omega) (by first | omega | (simp only [List.length_append]; omega)) | (rw [iMul_i64 (by omega) (by omega)]; omega) | decide), trivial⟩, ⟨⟨(by first | omega | (rw [adr_eq]; omega) | exact iAnd_nn _ _ | exact iSub_nn _ _ | exact part1_le (by omega) (by first | omega | (simp only [List.length_append]; omega)) | (rw [iMul_i64 (by omega) (by omega)]; omega) | decide), trivial⟩, ⟨⟨trivial, trivial⟩, ⟨⟨trivial, trivial⟩, ⟨⟨(by first | omega | (rw [adr_eq]; omega) | exact iAnd_nn _ _ | exact iSub_nn _ _ | exact part1_le (by omega) (by first | omega | (simp only [List.length_append]; omega)) | (rw [iMul_i64 (by omega) (by omega)]; omega) | decide), trivial⟩, ⟨⟨⟨(by first | omega | (rw [adr_eq]; omega) | exact iAnd_nn _ _ | exact iSub_nn _ _ | exact part1_le (by omega) (by first | omega | (simp only [List.length_append]; omega)) | (rw [iMul_i64 (by omega) (by omega)]; omega) | decide), (rfl)⟩, trivial⟩, trivial⟩⟩⟩⟩⟩⟩⟩) ?_
                change Tri _ _ _ _ _ _
                refine Tri.region' [(203, .i .i64 ((k5 + 1 : Nat) : Int))] none [193, 192, 5, 3, 2] [16, 80, 0] ((True ∧ ((iAdd .i64 ((k5 : Nat) : Int) 1) = ((k5 + 1 : Nat) : Int))) ∧ ((True ∧ True) ∧ True))
                    ([(193, .sc (.i .i64 ((k5 + 1 : Nat) : Int))), (192, .ints .u32 8 [(itr (F34l4 p0 k1) 64 (z1.getD 7 0, z1.getD 6 0, z1.getD 5 0, z1.getD 4 0, z1.getD 3 0, z1.getD 2 0, z1.getD 1 0, z1.getD 0 0)).2.2.2.2.2.2.2, (itr (F34l4 p0 k1) 64 (z1.getD 7 0, z1.getD 6 0, z1.getD 5 0, z1.getD 4 0, z1.getD 3 0, z1.getD 2 0, z1.getD 1 0, z1.getD 0 0)).2.2.2.2.2.2.1, (itr (F34l4 p0 k1) 64 (z1.getD 7 0, z1.getD 6 0, z1.getD 5 0, z1.getD 4 0, z1.getD 3 0, z1.getD 2 0, z1.getD 1 0, z1.getD 0 0)).2.2.2.2.2.1, (itr (F34l4 p0 k1) 64 (z1.getD 7 0, z1.getD 6 0, z1.getD 5 0, z1.getD 4 0, z1.getD 3 0, z1.getD 2 0, z1.getD 1 0, z1.getD 0 0)).2.2.2.2.1, (itr (F34l4 p0 k1) 64 (z1.getD 7 0, z1.getD 6 0, z1.getD 5 0, z1.getD 4 0, z1.getD 3 0, z1.getD 2 0, z1.getD 1 0, z1.getD 0 0)).2.2.2.1, (itr (F34l4 p0 k1) 64 (z1.getD 7 0, z1.getD 6 0, z1.getD 5 0, z1.getD 4 0, z1.getD 3 0, z1.getD 2 0, z1.getD 1 0, z1.getD 0 0)).2.2.1, (itr (F34l4 p0 k1) 64 (z1.getD 7 0, z1.getD 6 0, z1.getD 5 0, z1.getD 4 0, z1.getD 3 0, z1.getD 2 0, z1.getD 1 0, z1.getD 0 0)).2.1, (itr (F34l4 p0 k1) 64 (z1.getD 7 0, z1.getD 6 0, z1.getD 5 0, z1.getD 4 0, z1.getD 3 0, z1.getD 2 0, z1.getD 1 0, z1.getD 0 0)).1]), (5, .sc (.sl 80 (0 + (64 * k1)) ((F49w64n0 p0) - (64 * k1)) 1 none)), (3, .sc (.p 16 0)), (2, .sc (.p 0 0))], [(16, .ints .u32 8 (z5.set k5 (iAdd .u32 (z5.getD k5 0) ([(itr (F34l4 p0 k1) 64 (z1.getD 7 0, z1.getD 6 0, z1.getD 5 0, z1.getD 4 0, z1.getD 3 0, z1.getD 2 0, z1.getD 1 0, z1.getD 0 0)).2.2.2.2.2.2.2, (itr (F34l4 p0 k1) 64 (z1.getD 7 0, z1.getD 6 0, z1.getD 5 0, z1.getD 4 0, z1.getD 3 0, z1.getD 2 0, z1.getD 1 0, z1.getD 0 0)).2.2.2.2.2.2.1, (itr (F34l4 p0 k1) 64 (z1.getD 7 0, z1.getD 6 0, z1.getD 5 0, z1.getD 4 0, z1.getD 3 0, z1.getD 2 0, z1.getD 1 0, z1.getD 0 0)).2.2.2.2.2.1, (itr (F34l4 p0 k1) 64 (z1.getD 7 0, z1.getD 6 0, z1.getD 5 0, z1.getD 4 0, z1.getD 3 0, z1.getD 2 0, z1.getD 1 0, z1.getD 0 0)).2.2.2.2.1, (itr (F34l4 p0 k1) 64 (z1.getD 7 0, z1.getD 6 0, z1.getD 5 0, z1.getD 4 0, z1.getD 3 0, z1.getD 2 0, z1.getD 1 0, z1.getD 0 0)).2.2.2.1, (itr (F34l4 p0 k1) 64 (z1.getD 7 0, z1.getD 6 0, z1.getD 5 0, z1.getD 4 0, z1.getD 3 0, z1.getD 2 0, z1.getD 1 0, z1.getD 0 0)).2.2.1, (itr (F34l4 p0 k1) 64 (z1.getD 7 0, z1.getD 6 0, z1.getD 5 0, z1.getD 4 0, z1.getD 3 0, z1.getD 2 0, z1.getD 1 0, z1.getD 0 0)).2.1, (itr (F34l4 p0 k1) 64 (z1.getD 7 0, z1.getD 6 0, z1.getD 5 0, z1.getD 4 0, z1.getD 3 0, z1.getD 2 0, z1.getD 1 0, z1.getD 0 0)).1].getD k5 0)))), (80, .ints .u8 (F49w64n0 p0) (F49w64 p0)), (0, .ints .u8 32 [0, 0, 0, 0, 0, 0, 0, 0, 0, 0, 0, 0, 0, 0, 0, 0, 0, 0, 0, 0, 0, 0, 0, 0, 0, 0, 0, 0, 0, 0, 0, 0])])
                    1056 (by kernel_rfl) rfl (by kernel_rfl) (⟨⟨trivial, (iAdd_nat (a := k5) (b := 1) (by omega))⟩, ⟨⟨trivial, trivial⟩, trivial⟩⟩) ?_
                repeat (refine blkP_normal ?_)
                refine countP_normal (by omega) trivial ?_
                exact Sub.ren (ns := [(80, 80), (16, 16), (0, 0)]) (kf := [193, 192, 5, 3, 2]) (by kernel_rfl) (by kernel_rfl)
              ·
                have h26' := of_decide_eq_false h26
                refine Tri.exit ?_
                have hend5 : k5 = 8 := by (have := of_decide_eq_false h26; omega)
                subst hend5; subst hz5
                change Tri _ _ _ _ _ _
                refine Tri.len 80 rfl (fun hl31 => ?_)
                refine Tri.len 16 rfl (fun hl32 => ?_)
                refine Tri.region' [] none [5, 3, 2] [80, 16, 0] ((True ∧ True) ∧ ((((0 : Int) ≤ 64 ∧ (64 : Int) ≤ (((F49w64n0 p0) - (64 * k1) : Nat) : Int) ∧ (((F49w64n0 p0) - (64 * k1) : Nat) : Int) ≤ (((F49w64n0 p0) - (64 * k1) : Nat) : Int)) ∧ True) ∧ ((True ∧ True) ∧ True)))
                    ([(5, .sc (.sl 80 ((0 + (64 * k1)) + 64) (((F49w64n0 p0) - (64 * k1)) - 64) 1 none)), (3, .sc (.p 16 0)), (2, .sc (.p 0 0))], [(80, .ints .u8 (F49w64n0 p0) (F49w64 p0)), (16, .ints .u32 8 (itr (F34l5 p0 k1 z1) 8 z1)), (0, .ints .u8 32 [0, 0, 0, 0, 0, 0, 0, 0, 0, 0, 0, 0, 0, 0, 0, 0, 0, 0, 0, 0, 0, 0, 0, 0, 0, 0, 0, 0, 0, 0, 0, 0])])
                    896 (by kernel_rfl) rfl (by kernel_rfl) (⟨⟨trivial, trivial⟩, ⟨⟨(by first | omega | (rw [adr_eq]; omega) | exact iAnd_nn _ _ | exact iSub_nn _ _ | exact part1_le (by omega) (by first | omega | (simp only [List.length_append]; omega)) | (rw [iMul_i64 (by omega) (by omega)]; omega) | decide), trivial⟩, ⟨⟨trivial, trivial⟩, trivial⟩⟩⟩) ?_
                repeat (refine blkP_normal ?_)
                refine countP_normal (by omega) trivial ?_
                exact Sub.ren (ns := [(80, 80), (16, 16), (0, 0)]) (kf := [5, 3, 2]) (by kernel_rfl) (by kernel_rfl)
      ·
        have h4' := of_decide_eq_false h4
        refine Tri.exit ?_
        have hend1 : k1 = ((F49w64n0 p0) / 64) := by (have := of_decide_eq_false h4; omega)
        subst hend1; subst hz1
        change Tri _ _ _ _ _ _
        refine Tri.seq_region [] none [24, 3, 2] [160, 16, 0] ((True ∧ True) ∧ True)
            ([(24, .sc (.p 160 0)), (3, .sc (.p 16 0)), (2, .sc (.p 0 0))], [(160, .ints .u8 32 [0, 0, 0, 0, 0, 0, 0, 0, 0, 0, 0, 0, 0, 0, 0, 0, 0, 0, 0, 0, 0, 0, 0, 0, 0, 0, 0, 0, 0, 0, 0, 0]), (16, .ints .u32 8 (itr (F34l1 p0) ((F49w64n0 p0) / 64) (itr (F34l0) 8 [0, 0, 0, 0, 0, 0, 0, 0]))), (0, .ints .u8 32 [0, 0, 0, 0, 0, 0, 0, 0, 0, 0, 0, 0, 0, 0, 0, 0, 0, 0, 0, 0, 0, 0, 0, 0, 0, 0, 0, 0, 0, 0, 0, 0])])
            176 (by kernel_rfl) rfl (by kernel_rfl) (⟨⟨trivial, trivial⟩, trivial⟩) ?_
        refine Tri.seq ?_
        refine Tri.seq_region [] none [204, 24, 3, 2] [160, 16, 0] ((True ∧ True) ∧ True)
            ([(204, .sc (.i .i64 0)), (24, .sc (.p 160 0)), (3, .sc (.p 16 0)), (2, .sc (.p 0 0))], [(160, .ints .u8 32 [0, 0, 0, 0, 0, 0, 0, 0, 0, 0, 0, 0, 0, 0, 0, 0, 0, 0, 0, 0, 0, 0, 0, 0, 0, 0, 0, 0, 0, 0, 0, 0]), (16, .ints .u32 8 (itr (F34l1 p0) ((F49w64n0 p0) / 64) (itr (F34l0) 8 [0, 0, 0, 0, 0, 0, 0, 0]))), (0, .ints .u8 32 [0, 0, 0, 0, 0, 0, 0, 0, 0, 0, 0, 0, 0, 0, 0, 0, 0, 0, 0, 0, 0, 0, 0, 0, 0, 0, 0, 0, 0, 0, 0, 0])])
            192 (by kernel_rfl) rfl (by kernel_rfl) (⟨⟨trivial, trivial⟩, trivial⟩) ?_
        refine Tri.block ?_
        refine Tri.count 192 32 (F34l6 p0) [0, 0, 0, 0, 0, 0, 0, 0, 0, 0, 0, 0, 0, 0, 0, 0, 0, 0, 0, 0, 0, 0, 0, 0, 0, 0, 0, 0, 0, 0, 0, 0] (fun k6 z6 => True) (fun k6 z6 => ([(204, .sc (.i .i64 ((k6 : Nat) : Int))), (24, .sc (.p 160 0)), (3, .sc (.p 16 0)), (2, .sc (.p 0 0))], [(160, .ints .u8 32 z6), (16, .ints .u32 8 (itr (F34l1 p0) ((F49w64n0 p0) / 64) (itr (F34l0) 8 [0, 0, 0, 0, 0, 0, 0, 0]))), (0, .ints .u8 32 [0, 0, 0, 0, 0, 0, 0, 0, 0, 0, 0, 0, 0, 0, 0, 0, 0, 0, 0, 0, 0, 0, 0, 0, 0, 0, 0, 0, 0, 0, 0, 0])])) trivial (Sub.of_eq (by kernel_rfl)) ?_
        intro k6 z6 hk6 hz6 hJ6
        refine Tri.seq_region [] none [205, 204, 24, 3, 2] [160, 16, 0] ((True ∧ True) ∧ True)
            ([(205, .sc (.b (decide ((((k6 : Nat) : Int) : Int) < 32)))), (204, .sc (.i .i64 ((k6 : Nat) : Int))), (24, .sc (.p 160 0)), (3, .sc (.p 16 0)), (2, .sc (.p 0 0))], [(160, .ints .u8 32 z6), (16, .ints .u32 8 (itr (F34l1 p0) ((F49w64n0 p0) / 64) (itr (F34l0) 8 [0, 0, 0, 0, 0, 0, 0, 0]))), (0, .ints .u8 32 [0, 0, 0, 0, 0, 0, 0, 0, 0, 0, 0, 0, 0, 0, 0, 0, 0, 0, 0, 0, 0, 0, 0, 0, 0, 0, 0, 0, 0, 0, 0, 0])])
            208 (by kernel_rfl) rfl (by kernel_rfl) (⟨⟨trivial, trivial⟩, trivial⟩) ?_
        refine Tri.seq ?_
        refine Tri.cond (x := (decide ((((k6 : Nat) : Int) : Int) < 32))) (by kernel_rfl) (fun h33 => ?_) (fun h33 => ?_)
        ·
          have h33' := of_decide_eq_true h33
          refine Tri.skip ?_
          change Tri _ _ _ _ _ _
          refine Tri.seq ?_
          refine Tri.block ?_
          refine Tri.seq_region [] none [25, 204, 24, 3, 2] [160, 16, 0] ((True ∧ True) ∧ ((True ∧ True) ∧ True))
              ([(25, .sc (.i .i64 ((k6 : Nat) : Int))), (204, .sc (.i .i64 ((k6 : Nat) : Int))), (24, .sc (.p 160 0)), (3, .sc (.p 16 0)), (2, .sc (.p 0 0))], [(160, .ints .u8 32 z6), (16, .ints .u32 8 (itr (F34l1 p0) ((F49w64n0 p0) / 64) (itr (F34l0) 8 [0, 0, 0, 0, 0, 0, 0, 0]))), (0, .ints .u8 32 [0, 0, 0, 0, 0, 0, 0, 0, 0, 0, 0, 0, 0, 0, 0, 0, 0, 0, 0, 0, 0, 0, 0, 0, 0, 0, 0, 0, 0, 0, 0, 0])])
              240 (by kernel_rfl) rfl (by kernel_rfl) (⟨⟨trivial, trivial⟩, ⟨⟨trivial, trivial⟩, trivial⟩⟩) ?_
          refine Tri.len 160 rfl (fun hl34 => ?_)
          refine Tri.len 16 rfl (fun hl35 => ?_)
          refine Tri.region' [(209, .i .i64 ((k6 / 4 : Nat) : Int)), (213, .i .i64 ((k6 % 4 : Nat) : Int)), (214, .i .i64 ((8 * (k6 % 4) : Nat) : Int)), (215, .i .i64 ((24 - (8 * (k6 % 4)) : Nat) : Int))] none [204, 24, 3, 2] [160, 16, 0] ((True ∧ True) ∧ ((True ∧ True) ∧ (((4 ≠ (0 : Int)) ∧ ((iQuo .i64 ((k6 : Nat) : Int) 4) = ((k6 / 4 : Nat) : Int))) ∧ ((((0 : Int) ≤ ((k6 / 4 : Nat) : Int) ∧ ((k6 / 4 : Nat) : Int) < ((8 : Nat) : Int)) ∧ True) ∧ (((k6 / 4 < 8) ∧ True) ∧ ((True ∧ True) ∧ (((4 ≠ (0 : Int)) ∧ ((iRem ((k6 : Nat) : Int) 4) = ((k6 % 4 : Nat) : Int))) ∧ ((True ∧ ((iMul .i64 8 ((k6 % 4 : Nat) : Int)) = ((8 * (k6 % 4) : Nat) : Int))) ∧ ((True ∧ ((iSub .i64 24 ((8 * (k6 % 4) : Nat) : Int)) = ((24 - (8 * (k6 % 4)) : Nat) : Int))) ∧ ((((0 : Int) ≤ ((24 - (8 * (k6 % 4)) : Nat) : Int)) ∧ True) ∧ ((True ∧ True) ∧ ((((0 : Int) ≤ ((k6 : Nat) : Int) ∧ ((k6 : Nat) : Int) < ((32 : Nat) : Int)) ∧ True) ∧ ((((k6 < 32) ∧ (1 = 1)) ∧ True) ∧ True)))))))))))))
              ([(204, .sc (.i .i64 ((k6 : Nat) : Int))), (24, .sc (.p 160 0)), (3, .sc (.p 16 0)), (2, .sc (.p 0 0))], [(160, .ints .u8 32 (z6.set k6 (IntKind.wrap .u8 (iShr .u32 ((itr (F34l1 p0) ((F49w64n0 p0) / 64) (itr (F34l0) 8 [0, 0, 0, 0, 0, 0, 0, 0])).getD (k6 / 4) 0) ((24 - (8 * (k6 % 4)) : Nat) : Int))))), (16, .ints .u32 8 (itr (F34l1 p0) ((F49w64n0 p0) / 64) (itr (F34l0) 8 [0, 0, 0, 0, 0, 0, 0, 0]))), (0, .ints .u8 32 [0, 0, 0, 0, 0, 0, 0, 0, 0, 0, 0, 0, 0, 0, 0, 0, 0, 0, 0, 0, 0, 0, 0, 0, 0, 0, 0, 0, 0, 0, 0, 0])])
              448 (by kernel_rfl) rfl (by kernel_rfl) (⟨⟨trivial, trivial⟩, ⟨⟨trivial, trivial⟩, ⟨⟨(by first | omega | (rw [adr_eq]; omega) | exact iAnd_nn _ _ | exact iSub_nn _ _ | exact part1_le (by omega) (by first | omega | (simp only [List.length_append]; omega)) | (rw [iMul_i64 (by omega) (by omega)]; omega) | decide), (iQuo_nat (a := k6) (b := 4) (by omega))⟩, ⟨⟨(by first | omega | (rw [adr_eq]; omega) | exact iAnd_nn _ _ | exact iSub_nn _ _ | exact part1_le (by omega) (by first | omega | (simp only [List.length_append]; omega)) | (rw [iMul_i64 (by omega) (by omega)]; omega) | decide), trivial⟩, ⟨⟨(by first | omega | (rw [adr_eq]; omega) | exact iAnd_nn _ _ | exact iSub_nn _ _ | exact part1_le (by omega) (by first | omega | (simp only [List.length_append]; omega)) | (rw [iMul_i64 (by omega) (by omega)]; omega) | decide), trivial⟩, ⟨⟨trivial, trivial⟩, ⟨⟨(by first | omega | (rw [adr_eq]; omega) | exact iAnd_nn _ _ | exact iSub_nn _ _ | exact part1_le (by omega) (by first | omega | (simp only [List.length_append]; omega)) | (rw [iMul_i64 (by omega) (by omega)]; omega) | decide), (iRem_nat (a := k6) (b := 4))⟩, ⟨⟨trivial, (iMul_nat (a := 8) (b := k6 % 4) (by omega))⟩, ⟨⟨trivial, (iSub_nat (a := 24) (b := 8 * (k6 % 4)) (by omega) (by omega))⟩, ⟨⟨(by first | omega | (rw [adr_eq]; omega) | exact iAnd_nn _ _ | exact iSub_nn _ _ | exact part1_le (by omega) (by first | omega | (simp only [List.length_append]; omega)) | (rw [iMul_i64 (by omega) (by omega)]; omega) | decide), trivial⟩, ⟨⟨trivial, trivial⟩, ⟨⟨(by first | omega | (rw [adr_eq]; omega) | exact iAnd_nn _ _ | exact iSub_nn _ _ | exact part1_le (by omega) (by first | omega | (simp only [List.length_append]; omega)) | (rw [iMul_i64 (by omega) (by omega)]; omega) | decide), trivial⟩, ⟨⟨⟨(by first | omega | (rw [adr_eq]; omega) | exact iAnd_nn _ _ | exact iSub_nn _ _ | exact part1_le (by omega) (by first | omega | (simp only [List.length_append]; omega)) | (rw [iMul_i64 (by omega) (by omega)]; omega) | decide), (rfl)⟩, trivial⟩, trivial⟩⟩⟩⟩⟩⟩⟩⟩⟩⟩⟩⟩⟩) ?_
          change Tri _ _ _ _ _ _
          refine Tri.region' [(219, .i .i64 ((k6 + 1 : Nat) : Int))] none [204, 24, 3, 2] [160, 16, 0] ((True ∧ ((iAdd .i64 ((k6 : Nat) : Int) 1) = ((k6 + 1 : Nat) : Int))) ∧ ((True ∧ True) ∧ True))
              ([(204, .sc (.i .i64 ((k6 + 1 : Nat) : Int))), (24, .sc (.p 160 0)), (3, .sc (.p 16 0)), (2, .sc (.p 0 0))], [(160, .ints .u8 32 (z6.set k6 (IntKind.wrap .u8 (iShr .u32 ((itr (F34l1 p0) ((F49w64n0 p0) / 64) (itr (F34l0) 8 [0, 0, 0, 0, 0, 0, 0, 0])).getD (k6 / 4) 0) ((24 - (8 * (k6 % 4)) : Nat) : Int))))), (16, .ints .u32 8 (itr (F34l1 p0) ((F49w64n0 p0) / 64) (itr (F34l0) 8 [0, 0, 0, 0, 0, 0, 0, 0]))), (0, .ints .u8 32 [0, 0, 0, 0, 0, 0, 0, 0, 0, 0, 0, 0, 0, 0, 0, 0, 0, 0, 0, 0, 0, 0, 0, 0, 0, 0, 0, 0, 0, 0, 0, 0])])
              480 (by kernel_rfl) rfl (by kernel_rfl) (⟨⟨trivial, (iAdd_nat (a := k6) (b := 1) (by omega))⟩, ⟨⟨trivial, trivial⟩, trivial⟩⟩) ?_
          repeat (refine blkP_normal ?_)
          refine countP_normal (by omega) trivial ?_
          exact Sub.ren (ns := [(160, 160), (16, 16), (0, 0)]) (kf := [204, 24, 3, 2]) (by kernel_rfl) (by kernel_rfl)
        ·
          have h33' := of_decide_eq_false h33
          refine Tri.exit ?_
          have hend6 : k6 = 32 := by (have := of_decide_eq_false h33; omega)
          subst hend6; subst hz6
          change Tri _ _ _ _ _ _
          refine Tri.seq_region [] none [2] [0] ((True ∧ True) ∧ (((True ∧ (32 = 32)) ∧ True) ∧ True))
              ([(2, .sc (.p 0 0))], [(0, .ints .u8 32 (itr (F34l6 p0) 32 [0, 0, 0, 0, 0, 0, 0, 0, 0, 0, 0, 0, 0, 0, 0, 0, 0, 0, 0, 0, 0, 0, 0, 0, 0, 0, 0, 0, 0, 0, 0, 0]))])
              240 (by kernel_rfl) rfl (by kernel_rfl) (⟨⟨trivial, trivial⟩, ⟨⟨⟨trivial, (rfl)⟩, trivial⟩, trivial⟩⟩) ?_
          refine Tri.ret ?_
          exact endP.ret [] (True ∧ True) (by kernel_rfl) (by kernel_rfl) (by kernel_rfl) ⟨trivial, trivial⟩

end Go.Vm
