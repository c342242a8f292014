/- A part of a proof: the small machine that walks the program, the walks of its functions, and what they compute in plain. -/
import Derived.Test.YtfkmfdjdppjijaaQca
import Derived.Deep.LoopGhost
import Derived.Laws.Externs
import Derived.Below
import Derived.OpenShut
import Derived.DataShut
import Derived.ChangeSlices
import Derived.SliceStrings
import Derived.LaidMore
import Derived.Lib.Bytealg
import Derived.Lib.Join
import Derived.Laws.RangeAny
import Derived.Test.YtfkmfdjdppjijaaChecked
set_option linter.unusedVariables false
set_option linter.unusedSimpArgs false
namespace Go.Vm
open Go
variable {B : Bs} {E : Env} {U : Nat} {s : St} {Q : Post}
def ren16 (ns : Ren) (m : Nat) : Bool := ns.all fun p => Nat.ble m p.2 || Nat.beq p.1 p.2
theorem ren16_at {ns : Ren} {m b c : Nat} (h : ren16 ns m = true) (hb : (b, c) ∈ ns) (hc : c < m) : b = c := by
  unfold ren16 at h
  rw [List.all_eq_true] at h
  have h1 := h _ hb
  simp only [Bool.or_eq_true] at h1
  rcases h1 with h1 | h1
  · have := Nat.le_of_ble_eq_true h1
    omega
  · exact Nat.eq_of_beq_eq_true h1
theorem sigOf_keep {κ σ : Sig} {ns : Ren} {m : Nat} (hm : m ≤ 16) (h : ren16 ns m = true) (hk : Keep κ σ) {j : Nat} (hj : j < m) : sigOf σ ns j = κ j ∨ sigOf σ ns j = .unset := by
  unfold sigOf
  split
  · rename_i b hb
    have hmem := look_mem hb
    unfold turned at hmem
    obtain ⟨p, hp, he⟩ := List.mem_map.1 hmem
    simp only [Prod.mk.injEq] at he
    obtain ⟨rfl, rfl⟩ := he
    have := ren16_at h (show (p.1, p.2) ∈ ns from hp) hj
    rw [this]
    exact hk p.2 (by omega)
  · exact .inr rfl
theorem Sub.ren {U' : Nat} {ns : Ren} {kf : List Nat} {s' : St} (h : (renOk ns U' && ren16 ns 16 && Nat.ble 16 U') = true) (hs : renSt ns kf s = some s') : Sub U s U' s' := by
  simp only [Bool.and_eq_true] at h
  obtain ⟨⟨h, h5⟩, h6⟩ := h
  apply Sub.of1
  rintro E κ n a w ⟨σ, h1, h2, h3, h4⟩
  refine ⟨sigOf σ ns, StR.ren h hs h1, fun m hm => ?_, fun j hj => sigOf_keep (Nat.le_refl _) h5 h3 hj, Nat.le_of_ble_eq_true h6⟩
  unfold sigOf
  split
  · rename_i b hb
    have hmem := look_mem hb
    unfold turned at hmem
    obtain ⟨p, hp, he⟩ := List.mem_map.1 hmem
    simp only [Prod.mk.injEq] at he
    obtain ⟨rfl, rfl⟩ := he
    have := (renOk_mem h (show (p.1, p.2) ∈ ns from hp)).2.1
    omega
  · rfl
def loopP {α : Type} (U0 : Nat) (μ : α → Nat) (J : α → Prop) (st : α → St) (x : α) (Q : Post) : Post
  | .normal, U, s => ∃ x', μ x' < μ x ∧ J x' ∧ Sub U s U0 (st x')
  | e, U, s => Q e U s
theorem Tri.loop {α : Type} {c : Code} {U0 : Nat} (μ : α → Nat) (J : α → Prop) (st : α → St) (x0 : α) (hJ : J x0) (h0 : Sub U s U0 (st x0)) (round : ∀ x, J x → Tri B E c U0 (st x) (loopP U0 μ J st x Q)) : Tri B E (.loop c) U s Q := by
  intro hB a w g
  refine wp_loop_ghost (fun m a w => ∃ x, μ x = m ∧ J x ∧ Good E B.n U0 (st x) a w) (μ x0) ⟨x0, rfl, hJ, h0 _ _ _ _ g⟩ ?_
  rintro m a w ⟨x, rfl, hJx, gx⟩
  refine wp_mono (round x hJx hB a w gx) ?_
  rintro e a' w' ⟨U', s', h1, h2⟩
  cases e with
  | normal =>
    obtain ⟨x', q1, q2, q3⟩ := h2
    exact ⟨μ x', q1, x', rfl, q2, q3 _ _ _ _ h1⟩
  | exit id => exact ⟨U', s', h1, h2⟩
  | goto l => exact ⟨U', s', h1, h2⟩
  | ret => exact ⟨U', s', h1, h2⟩
  | panic ch => exact ⟨U', s', h1, h2⟩
  | outgrown => exact ⟨U', s', h1, h2⟩
def sel {α : Type} (b : Bool) (x y : α) : α := bif b then x else y
theorem sel_true {α : Type} (x y : α) : sel true x y = x := Eq.trans (b := x) rfl rfl
theorem sel_false {α : Type} (x y : α) : sel false x y = y := Eq.trans (b := y) rfl rfl
def itr {α : Type} (f : Nat → α → α) : Nat → α → α
  | 0, x => x
  | k + 1, x => f k (itr f k x)
theorem itr_zero {α : Type} (f : Nat → α → α) (x : α) : itr f 0 x = x := rfl
theorem itr_succ {α : Type} (f : Nat → α → α) (k : Nat) (x : α) : itr f (k + 1) x = f k (itr f k x) := rfl
attribute [irreducible] itr
structure Ret where
  v : AV
  bs : List (Option Blk)
def zipN : Nat → List Blk → Mem
  | _, [] => []
  | i, k :: r => (i, k) :: zipN (i + 1) r
def zipO : Nat → List (Option Blk) → Mem
  | _, [] => []
  | i, none :: r => zipO (i + 1) r
  | i, some k :: r => (i, k) :: zipO (i + 1) r
def PureAt (P : Program) (G : Globs) (f : FuncId) (m : Nat) (spec : List AV → List Blk → Option (Prop × Ret)) : Prop :=
  ∀ (E : Env) (w : World) (args : List AV) (ks : List Blk) (Vs : Array Value) (C : Prop) (r : Ret), E.P = P → GlobsOk E G → ks.length = m → (∀ j, m ≤ j → E.kp j = .unset) → MemR E E.kp (zipN 0 ks) w → All2 (AVR E E.kp) args Vs.toList → spec args ks = some (C, r) → C →
    Yields P f Vs w fun V w' => ∃ E' σ', Grow E E' ∧ (∀ j, j < m → σ' j = E.kp j ∨ σ' j = .unset) ∧ AVR E' σ' r.v V ∧ MemR E' σ' (zipO 0 r.bs) w'
def Blk.a1 : Blk → A1
  | .ints k n xs => .ints k n xs
  | .cells l => .agg l
  | .vec v xs => .agg (xs.map v.sc)
def a1Of : AV → Option A1
  | .sc s => some (.sc s)
  | .agg l => some (.agg l)
  | .ints k n xs => some (.ints k n xs)
  | .tup _ => none
def result1 (P : Program) (s : St) : ResultVar → Option (Prop × A1)
  | .tmp t => match look t s.1 with
    | some v => (match a1Of v with | some v' => some (True, v') | none => none)
    | none => none
  | .cell a t => match look a s.1, isAggT P t, sizeT P t with
    | some (.sc (.p b o)), some false, some _ => (match look b s.2 with | some k => (let r := k.at o; some (r.1, .sc r.2)) | none => none)
    | some (.sc (.p b o)), some true, some z => (match look b s.2 with | some k => (let r := k.sub o z; some (r.1, r.2.a1)) | none => none)
    | _, _, _ => none
def resultsOf (P : Program) (s : St) : List ResultVar → Option (Prop × List A1)
  | [] => some (True, [])
  | x :: r => match result1 P s x with
    | none => none
    | some (C, v) => match resultsOf P s r with
      | none => none
      | some (C', vs) => some (C ∧ C', v :: vs)
def wrap1 : List A1 → AV
  | [v] => v.up
  | l => .tup l
def finish (P : Program) (rs : List ResultVar) (ns : Ren) (tot : Nat) (s : St) : Option (Prop × Ret) :=
  match resultsOf P s rs with
  | none => none
  | some (C, l) => match (wrap1 l).ren ns, renMem ns s.2 ns with
    | some v, some M => some (C, ⟨v, (List.range tot).map fun j => look j M⟩)
    | _, _ => none
theorem zipO_look {f : Nat → Option Blk} : ∀ (n i c : Nat) (k : Blk), look c (zipO i ((List.range' i n).map f)) = some k → f c = some k
  | 0, i, c, k, h => by cases h
  | n + 1, i, c, k, h => by
    rw [List.range'_succ, List.map_cons] at h
    cases hf : f i with
    | none =>
      rw [hf] at h
      exact zipO_look n (i + 1) c k h
    | some x =>
      rw [hf] at h
      simp only [zipO, look] at h
      by_cases e : i = c
      · subst e
        simp only [beqT, cond_true, Option.some.injEq] at h
        rw [hf, h]
      · simp only [beqF e, cond_false] at h
        exact zipO_look n (i + 1) c k h
theorem MemR.less {σ : Sig} {M M' : Mem} {w : World} (h : MemR E σ M w) (hM : ∀ b k, look b M' = some k → look b M = some k) : MemR E σ M' w :=
  { blk := fun b k hb => h.blk b k (hM b k hb)
    inj := fun b c x y L L' hb hc => h.inj b c x y L L' (hM b x hb) (hM c y hc)
    old := h.old
    size := h.size
    olds := h.olds
    os := h.os
    tape := h.tape
    output := h.output }
def endP (P : Program) (rs : List ResultVar) (m : Nat) (r : Ret) : Post
  | .normal, _, s | .ret, _, s => ∃ ns C, (renOk ns r.bs.length && ren16 ns m) = true ∧ finish P rs ns r.bs.length s = some (C, r) ∧ C
  | _, _, _ => False
theorem a1Of_R {σ : Sig} {v : AV} {v' : A1} {V : Value} (h : a1Of v = some v') (hv : AVR E σ v V) : A1R E σ v' V := by
  cases v with
  | tup l => cases h
  | sc x => simp only [a1Of, Option.some.injEq] at h; subst h; exact hv
  | agg x => simp only [a1Of, Option.some.injEq] at h; subst h; exact hv
  | ints k n x => simp only [a1Of, Option.some.injEq] at h; subst h; exact hv
theorem Blk.a1_R {σ : Sig} {k : Blk} {V : Value} (hv : AVR E σ k.av V) : A1R E σ k.a1 V := by
  cases k <;> exact hv
def resultVal (a : Act) : ResultVar → Sem Value
  | .tmp t => pure (a.tmps.getD t undef)
  | .cell d t => do loadVar t (← asAddr (a.tmps.getD d undef))
theorem result1_run {P : Program} {σ : Sig} {a : Act} {w : World} {n : Nat} (hs : StR E n σ s.1 s.2 a w) {x : ResultVar} {C : Prop} {v : A1} (h : result1 P s x = some (C, v)) (hC : C) :
    ∃ V, (resultVal a x).run P w = .ok V w ∧ A1R E σ v V := by
  cases x with
  | tmp t =>
    simp only [result1] at h
    split at h
    · rename_i u hu
      split at h
      · rename_i v' hv'
        simp only [Option.some.injEq, Prod.mk.injEq] at h
        obtain ⟨_, rfl⟩ := h
        obtain ⟨V, h1, h2⟩ := hs.val t u hu
        exact ⟨V, by simp [resultVal, Array.getD_eq_getD_getElem?, h1], a1Of_R hv' h2⟩
      · cases h
    · cases h
  | cell d t =>
    simp only [result1] at h
    split at h
    · rename_i b o z hd hag hsz
      split at h
      · rename_i k hk
        simp only [Option.some.injEq, Prod.mk.injEq] at h
        obtain ⟨rfl, rfl⟩ := h
        obtain ⟨V, h1, L, hL, rfl⟩ := hs.val d _ hd
        have hB := hs.blk b k hk
        rw [hL] at hB
        obtain ⟨v, h3, h4⟩ := hB.read (Blk.at_get hB.1 hC)
        refine ⟨v, ?_, h4⟩
        simp [resultVal, Array.getD_eq_getD_getElem?, h1, asAddr, load_one hag h3]
      · cases h
    · rename_i b o z hd hag hsz
      split at h
      · rename_i k hk
        simp only [Option.some.injEq, Prod.mk.injEq] at h
        obtain ⟨rfl, rfl⟩ := h
        obtain ⟨V, h1, L, hL, rfl⟩ := hs.val d _ hd
        have hB := hs.blk b k hk
        rw [hL] at hB
        obtain ⟨cs, h3, h4, h5⟩ := hB.list hC
        refine ⟨.agg cs.toArray, ?_, Blk.a1_R h5.av⟩
        simp [resultVal, Array.getD_eq_getD_getElem?, h1, asAddr]
        exact load_many hag hsz h3 h4
      · cases h
    · cases h
theorem results_run {P : Program} {σ : Sig} {a : Act} {w : World} {n : Nat} (hs : StR E n σ s.1 s.2 a w) : ∀ {rs : List ResultVar} {l : List A1} {C : Prop}, resultsOf P s rs = some (C, l) → C →
    ∃ Vs : List Value, (rs.mapM (resultVal a)).run P w = .ok Vs w ∧ All2 (A1R E σ) l Vs
  | [], l, C, h, hC => by
    simp only [resultsOf, Option.some.injEq, Prod.mk.injEq] at h
    obtain ⟨_, rfl⟩ := h
    exact ⟨[], by simp, trivial⟩
  | x :: r, l, C, h, hC => by
    simp only [resultsOf] at h
    split at h
    · cases h
    · rename_i C1 v1 h1
      split at h
      · cases h
      · rename_i C2 vs h2
        simp only [Option.some.injEq, Prod.mk.injEq] at h
        obtain ⟨rfl, rfl⟩ := h
        obtain ⟨V, q1, q2⟩ := result1_run hs h1 hC.1
        obtain ⟨Vs, q3, q4⟩ := results_run hs h2 hC.2
        exact ⟨V :: Vs, by simp [q1, q3], q2, q4⟩
theorem A1.up_R {σ : Sig} {v : A1} {V : Value} (h : A1R E σ v V) : AVR E σ v.up V := by
  cases v <;> exact h
theorem wrap1_R {P : Program} {fn : Func} {σ : Sig} {a : Act} {w : World} {n : Nat} (hs : StR E n σ s.1 s.2 a w) {l : List A1} {C : Prop} (h : resultsOf P s fn.results.toList = some (C, l)) (hC : C) :
    ∃ V, (results fn a.tmps).run P w = .ok V w ∧ AVR E σ (wrap1 l) V := by
  obtain ⟨Vs, h1, h2⟩ := results_run hs h hC
  have hm : (fn.results.mapM (resultVal a)).run P w = .ok Vs.toArray w := by
    rw [Array.mapM_eq_mapM_toList]
    simp [h1]
  have hr : results fn a.tmps = (do let vs ← fn.results.mapM (resultVal a); pure (if h : vs.size = 1 then vs[0] else .tuple vs)) := rfl
  rw [hr]
  simp only [Sem.run_bind, hm, Result.andThen_ok, Sem.run_pure]
  refine ⟨_, rfl, ?_⟩
  match l, Vs, h2 with
  | [v], [V], h2 => exact A1.up_R h2.1
  | [], [], _ => exact ⟨_, rfl, trivial⟩
  | v :: v' :: r, V :: V' :: R, h2 => exact ⟨_, by simp, h2⟩
def lens : List AV → Prop
  | [] => True
  | .ints _ n xs :: r => xs.length = n ∧ lens r
  | .sc _ :: r => lens r
  | .agg _ :: r => lens r
  | .tup _ :: r => lens r
theorem lens_of {E : Env} {σ : Sig} : ∀ {args : List AV} {m : List Value}, All2 (AVR E σ) args m → lens args
  | [], [], _ => trivial
  | .ints _ _ _ :: r, V :: m, ⟨h1, h2⟩ => ⟨h1.1, lens_of h2⟩
  | .sc _ :: r, V :: m, ⟨h1, h2⟩ => lens_of (args := r) h2
  | .agg _ :: r, V :: m, ⟨h1, h2⟩ => lens_of (args := r) h2
  | .tup _ :: r, V :: m, ⟨h1, h2⟩ => lens_of (args := r) h2
theorem PureAt.of_walk {B : Bs} {f : FuncId} {fn : Func} {c : Code} {m : Nat} {spec : List AV → List Blk → Option (Prop × Ret)} (hok : B.Ok) (hf : B.P.funcs[f]? = some fn) (hb : fn.body = some c) (hn : (fn.name != "runtime.NumGoroutine") = true) (hnt : fn.ntmps = B.n) (hm : m ≤ 16)
    (h : ∀ (E : Env) (args : List AV) (ks : List Blk) (C : Prop) (r : Ret), spec args ks = some (C, r) → C → lens args → args.length ≤ B.n ∧ Tri B E c 16 ((List.range args.length).zip args, zipN 0 ks) (endP B.P fn.results.toList m r)) : PureAt B.P B.G f m spec := by
  intro E w args ks Vs C r hP hG hks hkp hM hargs hsp hC
  obtain ⟨hlen, hw⟩ := h E args ks C r hsp hC (lens_of hargs)
  have hl : args.length = Vs.size := by simpa using hargs.length
  refine .inl ⟨by simp [entersB, hf, hb, hn], ?_⟩
  refine calls_of_wp hf hb ?_
  have good : Good E B.n 16 ((List.range args.length).zip args, zipN 0 ks) { tmps := Vs ++ Array.replicate (fn.ntmps - Vs.size) undef, defers := [] } w := by
    refine ⟨E, .refl E, E.kp, ?_, fun j hj => hkp j (by omega), fun _ _ => .inl rfl, Nat.le_refl _⟩
    refine { toMemR := hM, val := fun t v ht => ?_, defers := rfl, tmps := by simp; omega }
    have hmem := look_mem ht
    obtain ⟨j, hj⟩ := List.mem_iff_getElem?.1 hmem
    rw [List.getElem?_zip_eq_some] at hj
    obtain ⟨hj1, hj2⟩ := hj
    have hjt : j = t := by
      rw [List.getElem?_range] at hj1
      · simpa using hj1
      · rw [List.getElem?_eq_some_iff] at hj2
        obtain ⟨q, _⟩ := hj2
        exact q
    subst hjt
    obtain ⟨V, q1, q2⟩ := hargs.get j v hj2
    refine ⟨V, ?_, q2⟩
    have hlt : j < Vs.size := by
      rw [Array.getElem?_toList] at q1
      rw [Array.getElem?_eq_some_iff] at q1
      exact q1.1
    rw [Array.getElem?_append_left hlt]
    simpa using q1
  refine wp_mono (hw ⟨hP, hG, hok⟩ _ w good) ?_
  rintro e a' w' ⟨U', s', ⟨E', hgr, σ, g1, g2, g3, g4⟩, hq⟩
  have fin : (∃ ns C, (renOk ns r.bs.length && ren16 ns m) = true ∧ finish B.P fn.results.toList ns r.bs.length s' = some (C, r) ∧ C) →
      a'.defers = [] ∧ ∃ v, (results fn a'.tmps).run B.P w' = .ok v w' ∧ ∃ V, (Ending.returned v) = .returned V ∧ ∃ E' σ', Grow E E' ∧ (∀ j, j < m → σ' j = E.kp j ∨ σ' j = .unset) ∧ AVR E' σ' r.v V ∧ MemR E' σ' (zipO 0 r.bs) w' := by
    rintro ⟨ns, C, n1, n3, n4⟩
    simp only [Bool.and_eq_true] at n1
    obtain ⟨n1, n2⟩ := n1
    unfold finish at n3
    split at n3
    · cases n3
    · rename_i C1 l hl
      split at n3
      · rename_i v M m1 m2
        simp only [Option.some.injEq, Prod.mk.injEq] at n3
        obtain ⟨rfl, hr⟩ := n3
        obtain ⟨V, q1, q2⟩ := wrap1_R g1 hl n4
        have hv : r.v = v := by rw [← hr]
        have hbs : r.bs = (List.range r.bs.length).map fun j => look j M := by
          conv => lhs; rw [← hr]
        refine ⟨g1.defers, V, q1, V, rfl, E', sigOf σ ns, hgr, fun j hj => sigOf_keep hm n2 g3 hj, by rw [hv]; exact AV.ren_R n1 m1 q2, ?_⟩
        have := StR.ren (kf := []) (s := s') (s' := ([], M)) n1 (by simp [renSt, renFr, m2]) g1
        have hM' := this.toMemR
        refine MemR.less (M := M) hM' fun b k hb => ?_
        rw [hbs, List.range_eq_range'] at hb
        exact zipO_look _ 0 b k hb
      · cases n3
  cases e with
  | normal => exact fin hq
  | ret => exact fin hq
  | exit id => exact hq.elim
  | goto l => exact hq.elim
  | panic ch => exact hq.elim
  | outgrown => exact hq.elim
end Go.Vm
set_option linter.unusedVariables false
set_option linter.unusedSimpArgs false
namespace Go.Vm
open Go
def Sc.plain : Sc → Bool
  | .p _ _ | .sl _ _ _ _ _ | .b _ | .i _ _ | .s _ | .nilp | .nils => true
  | _ => false
def A1.plain : A1 → Bool
  | .sc s => s.plain
  | .agg l => l.all Sc.plain
  | .ints _ _ _ => true
def AV.plain : AV → Bool
  | .sc s => s.plain
  | .agg l => l.all Sc.plain
  | .ints _ _ _ => true
  | .tup l => l.all A1.plain
def Blk.plain : Blk → Bool
  | .ints _ _ _ => true
  | .cells l => l.all Sc.plain
  | .vec .str _ => true
  | .vec _ _ => false
def OBlk.plain : Option Blk → Bool
  | none => true
  | some k => k.plain
def Ret.plain (r : Ret) : Bool := r.v.plain && r.bs.all OBlk.plain
def Sc.own0 : Sc → Bool
  | .b _ | .i _ _ | .s _ | .nilp | .nils => true
  | _ => false
inductive Pass where
  | val
  | ro (k : IntKind)
  | rob
  | ros
  | io
def part1 (xs : List Int) (n off len : Nat) : List Int := bif Nat.beq len n && Nat.beq off 0 then xs else (xs.drop off).take len
theorem part1_eq {xs : List Int} {n off len : Nat} (h : xs.length = n) : part1 xs n off len = (xs.drop off).take len := by
  unfold part1
  cases hb : (Nat.beq len n && Nat.beq off 0)
  · rfl
  · rw [Bool.and_eq_true] at hb
    have h1 := Nat.eq_of_beq_eq_true hb.1
    have h2 := Nat.eq_of_beq_eq_true hb.2
    subst h1 h2
    simp only [cond_true, List.drop_zero]
    rw [List.take_of_length_le (by omega)]
theorem part1_all {xs : List Int} {n : Nat} (h : xs.length = n) : part1 xs n 0 n = xs := by
  rw [part1_eq h, List.drop_zero, List.take_of_length_le (by omega)]
def partV {α : Type} (xs : List α) (off len : Nat) : List α := bif Nat.beq off 0 then xs.take len else (xs.drop off).take len
theorem partV_eq {α : Type} (xs : List α) (off len : Nat) : partV xs off len = (xs.drop off).take len := by
  unfold partV
  cases hb : Nat.beq off 0
  · rfl
  · have h := Nat.eq_of_beq_eq_true hb
    subst h
    rfl
def lookZ (b : Nat) : List Nat → List Blk → Option Blk
  | m :: ms, k :: ks => bif Nat.beq m b then some k else lookZ b ms ks
  | _, _ => none
def roOf (k : IntKind) (ms : List Nat) (ks : List Blk) : Sc → Option (Prop × List Int)
  | .ro k' xs => if k' = k then some (True, xs) else none
  | .nils => some (True, [])
  | .sl b off len 1 _ => match lookZ b ms ks with
    | some (.ints k' n xs) => if k' = k then some (off + len ≤ n, part1 xs n off len) else none
    | some (.cells []) => some (len = 0, [])
    | _ => none
  | _ => none
def rowsOf (ms : List Nat) (ks : List Blk) : List Sc → Option (Prop × List (List Int))
  | [] => some (True, [])
  | s :: r => match roOf .u8 ms ks s, rowsOf ms ks r with
    | some (C, xs), some (C', xss) => some (C ∧ C', xs :: xss)
    | _, _ => none
def lendAll (ns : Ren) (ms : List Nat) (ks : List Blk) : List Pass → List AV → Option (Prop × List AV)
  | [], [] => some (True, [])
  | .ro k :: ps, .sc s :: r => match roOf k ms ks s, lendAll ns ms ks ps r with
    | some (C, xs), some (C', vs) => some (C ∧ C', .sc (.ro k xs) :: vs)
    | _, _ => none
  | .rob :: ps, .sc (.rob xs) :: r => (match lendAll ns ms ks ps r with
    | some (C, vs) => some (C, .sc (.rob xs) :: vs)
    | none => none)
  | .rob :: ps, .sc (.sl b off len es _) :: r => match lookZ b ms ks with
    | some (.cells l) => (match rowsOf ms ks ((l.drop off).take len), lendAll ns ms ks ps r with
      | some (C0, xss), some (C, vs) => bif Nat.beq es 1 then some ((off + len ≤ l.length ∧ C0) ∧ C, .sc (.rob xss) :: vs) else none
      | _, _ => none)
    | some (.vec .row xs) => (match lendAll ns ms ks ps r with
      | some (C, vs) => bif Nat.beq es 1 then some ((off + len ≤ xs.length) ∧ C, .sc (.rob (partV xs off len)) :: vs) else none
      | _ => none)
    | _ => none
  | .rob :: ps, .sc .nils :: r => (match lendAll ns ms ks ps r with
    | some (C, vs) => some (C, .sc (.rob []) :: vs)
    | none => none)
  | .ros :: ps, .sc (.ros xs) :: r => (match lendAll ns ms ks ps r with
    | some (C, vs) => some (C, .sc (.ros xs) :: vs)
    | none => none)
  | .ros :: ps, .sc .nils :: r => (match lendAll ns ms ks ps r with
    | some (C, vs) => some (C, .sc (.ros []) :: vs)
    | none => none)
  | .ros :: ps, .sc (.sl b off len es _) :: r => match lookZ b ms ks with
    | some (.vec .str xs) => (match lendAll ns ms ks ps r with
      | some (C, vs) => bif Nat.beq es 1 then some ((off + len ≤ xs.length) ∧ C, .sc (.ros (partV xs off len)) :: vs) else none
      | _ => none)
    | some (.cells l) => (match VK.unL .str ((l.drop off).take len), lendAll ns ms ks ps r with
      | some xs, some (C, vs) => bif Nat.beq es 1 then some ((off + len ≤ l.length) ∧ C, .sc (.ros xs) :: vs) else none
      | _, _ => none)
    | _ => none
  | .val :: ps, .sc s :: r => (match s.own0, lendAll ns ms ks ps r with
    | true, some (C, vs) => some (C, .sc s :: vs)
    | _, _ => none)
  | .val :: ps, .ints k n xs :: r => (match lendAll ns ms ks ps r with
    | some (C, vs) => some (C, .ints k n xs :: vs)
    | none => none)
  | .io :: ps, v :: r => (match v.ren ns, lendAll ns ms ks ps r with
    | some v', some (C, vs) => some (C, v' :: vs)
    | _, _ => none)
  | _, _ => none
def downB (ns : Ren) : List Blk → Option (List Blk)
  | [] => some []
  | k :: r => match k.ren ns, downB ns r with
    | some k', some r' => some (k' :: r')
    | _, _ => none
def upB (up : Ren) : List (Option Blk) → Option (List (Option Blk))
  | [] => some []
  | none :: r => (match upB up r with
    | some r' => some (none :: r')
    | none => none)
  | some k :: r => match k.ren up, upB up r with
    | some k', some r' => some (some k' :: r')
    | _, _ => none
def downN (fs : List Nat) : Ren := fs.zip (List.range fs.length)
def upN (fs : List Nat) (nm nb : Nat) : Ren := (List.range (fs.length + nb)).zip (fs ++ (List.range nb).map (nm + ·))
def big : Nat := 1000000000000
def callD (ps : List Pass) (ms fs : List Nat) (nb : Nat) (spec : List AV → List Blk → Option (Prop × Ret)) (args : List AV) (nm : Nat) : Option Deed :=
  bif renOk (downN fs) big && renOk (upN fs nm nb) big && ms.all (fun b => !fs.any (Nat.beq b)) then
    some { rd := ms ++ fs, wr := fs ++ (List.range nb).map (nm + ·), go := fun ks =>
      match lendAll (downN fs) ms (ks.take ms.length) ps args, downB (downN fs) (ks.drop ms.length) with
      | some (C, vs), some ks' => (match spec vs ks' with
        | some (C', r) => (match r.v.ren (upN fs nm nb), upB (upN fs nm nb) r.bs with
          | some v, some bs => bif Nat.beq r.bs.length (fs.length + nb) && (ms.isEmpty || r.plain) then some (C ∧ C', v, bs) else none
          | _, _ => none)
        | none => none)
      | _, _ => none }
  else none
section
variable {E E0 E' : Env} {σ σ' : Sig} {nm nb : Nat}
theorem ro_env (ho : ∀ g, E0.old g → E'.old g) (hw : E'.w0 = E0.w0) {k : IntKind} {xs : List Int} {V : Value} (h : RoR E0 k xs V) : RoR E' k xs V := by
  obtain ⟨A, c, q1, q2, q3⟩ := h
  refine ⟨A, c, q1, q2, fun hpos => ?_⟩
  obtain ⟨ad, r1, r2, r3⟩ := q3 hpos
  exact ⟨ad, r1, ho _ r2, fun j hj => by rw [hw]; exact r3 j hj⟩
theorem Sc.env {pl : Bool} (ho : pl = false → ∀ g, E0.old g → E'.old g) (hw : E'.w0 = E0.w0) : ∀ {s : Sc} {V : Value}, (pl = true → s.plain = true) → ScR E0 σ s V → ScR E' σ s V := by
  intro s V hp h
  cases pl with
  | true =>
    have := hp rfl
    cases s <;> first | exact h | exact Bool.noConfusion (show false = true from this)
  | false =>
    have ho := ho rfl
    cases s with
    | b _ | i _ _ | s _ | nilp | nils | raw _ | p _ _ | sl _ _ _ _ _ => exact h
    | ro k xs => exact ro_env ho hw h
    | ros xs =>
      obtain ⟨A, c, q1, q2, q3⟩ := h
      refine ⟨A, c, q1, q2, fun hpos => ?_⟩
      obtain ⟨ad, r1, r2, r3⟩ := q3 hpos
      exact ⟨ad, r1, ho _ r2, fun j hj => by rw [hw]; exact r3 j hj⟩
    | rob xs =>
      obtain ⟨A, c, q1, q2, q3⟩ := h
      refine ⟨A, c, q1, q2, fun hpos => ?_⟩
      obtain ⟨ad, r1, r2, r3⟩ := q3 hpos
      refine ⟨ad, r1, ho _ r2, fun j hj => ?_⟩
      obtain ⟨v, e1, e2⟩ := r3 j hj
      exact ⟨v, by rw [hw]; exact e1, ro_env ho hw e2⟩
    | rp k xs j =>
      obtain ⟨ad, q1, q2, q3⟩ := h
      exact ⟨ad, q1, ho _ q2, fun j hj => by rw [hw]; exact q3 j hj⟩
    | rps x =>
      obtain ⟨ad, q1, q2, q3⟩ := h
      exact ⟨ad, q1, ho _ q2, by rw [hw]; exact q3⟩
    | rpb xs =>
      obtain ⟨ad, v, q1, q2, q3, q4⟩ := h
      exact ⟨ad, v, q1, ho _ q2, by rw [hw]; exact q3, ro_env ho hw q4⟩
theorem scL_env {pl : Bool} (ho : pl = false → ∀ g, E0.old g → E'.old g) (hw : E'.w0 = E0.w0) : ∀ {l : List Sc} {m : List Value}, (pl = true → l.all Sc.plain = true) → All2 (ScR E0 σ) l m → All2 (ScR E' σ) l m
  | [], [], _, _ => trivial
  | x :: r, V :: m, hp, h => ⟨Sc.env ho hw (fun q => by have := hp q; simp only [List.all_cons, Bool.and_eq_true] at this; exact this.1) h.1,
      scL_env ho hw (fun q => by have := hp q; simp only [List.all_cons, Bool.and_eq_true] at this; exact this.2) h.2⟩
theorem A1.env {pl : Bool} (ho : pl = false → ∀ g, E0.old g → E'.old g) (hw : E'.w0 = E0.w0) {v : A1} {V : Value} (hp : pl = true → v.plain = true) (h : A1R E0 σ v V) : A1R E' σ v V := by
  cases v with
  | sc s => exact Sc.env ho hw hp h
  | agg l => obtain ⟨arr, e, q⟩ := h; exact ⟨arr, e, scL_env ho hw hp q⟩
  | ints k n xs => exact h
theorem a1L_env {pl : Bool} (ho : pl = false → ∀ g, E0.old g → E'.old g) (hw : E'.w0 = E0.w0) : ∀ {l : List A1} {m : List Value}, (pl = true → l.all A1.plain = true) → All2 (A1R E0 σ) l m → All2 (A1R E' σ) l m
  | [], [], _, _ => trivial
  | x :: r, V :: m, hp, h => ⟨A1.env ho hw (fun q => by have := hp q; simp only [List.all_cons, Bool.and_eq_true] at this; exact this.1) h.1,
      a1L_env ho hw (fun q => by have := hp q; simp only [List.all_cons, Bool.and_eq_true] at this; exact this.2) h.2⟩
theorem AV.env {pl : Bool} (ho : pl = false → ∀ g, E0.old g → E'.old g) (hw : E'.w0 = E0.w0) {v : AV} {V : Value} (hp : pl = true → v.plain = true) (h : AVR E0 σ v V) : AVR E' σ v V := by
  cases v with
  | sc s => exact Sc.env ho hw hp h
  | agg l => obtain ⟨arr, e, q⟩ := h; exact ⟨arr, e, scL_env ho hw hp q⟩
  | ints k n xs => exact h
  | tup l => obtain ⟨arr, e, q⟩ := h; exact ⟨arr, e, a1L_env ho hw hp q⟩
theorem Blk.env {pl : Bool} (ho : pl = false → ∀ g, E0.old g → E'.old g) (hw : E'.w0 = E0.w0) (hz : ∀ g, ¬ E0.fz g → ¬ E'.fz g) {k : Blk} {L : Pl} {w : World} (hp : pl = true → k.plain = true) (h : BlkR E0 σ w k L) : BlkR E' σ w k L := by
  cases L with
  | unset => exact h
  | nil => exact h
  | «at» L =>
    obtain ⟨g1, arr, elem, lo, hi, q1, q2, q3, q4, q5, q6⟩ := h
    refine ⟨g1, arr, elem, lo, hi, q1, q2, q3, hz _ q4, q5, fun j s hs => ?_⟩
    obtain ⟨v, e1, e2⟩ := q6 j s hs
    refine ⟨v, e1, Sc.env ho hw (fun q => ?_) e2⟩
    have := hp q
    cases k with
    | ints kk n xs =>
      simp only [Blk.get?, Option.map_eq_some_iff] at hs
      obtain ⟨_, _, rfl⟩ := hs
      rfl
    | cells l =>
      simp only [Blk.plain, List.all_eq_true] at this
      exact this s (List.mem_of_getElem? hs)
    | vec v l =>
      simp only [Blk.get?, Option.map_eq_some_iff] at hs
      obtain ⟨x, _, rfl⟩ := hs
      cases v with
      | str => rfl
      | row => simp [Blk.plain] at this
      | tab => simp [Blk.plain] at this
theorem lookAll_append {M : Mem} : ∀ {l m : List Nat} {ks : List Blk}, lookAll M (l ++ m) = some ks → lookAll M l = some (ks.take l.length) ∧ lookAll M m = some (ks.drop l.length)
  | [], m, ks, h => ⟨by simp [lookAll], by simpa using h⟩
  | b :: l, m, ks, h => by
    simp only [List.cons_append, lookAll] at h ⊢
    cases hb : look b M with
    | none => simp [hb] at h
    | some k =>
      simp only [hb] at h ⊢
      cases hr : lookAll M (l ++ m) with
      | none => simp [hr] at h
      | some ks' =>
        simp only [hr, Option.some.injEq] at h
        subst h
        obtain ⟨h1, h2⟩ := lookAll_append hr
        exact ⟨by simp [h1], by simpa using h2⟩
theorem lookAll_at {M : Mem} : ∀ {l : List Nat} {ks : List Blk}, lookAll M l = some ks → l.length = ks.length ∧ ∀ (j b : Nat), l[j]? = some b → ∃ k, ks[j]? = some k ∧ look b M = some k
  | [], ks, h => by
    simp only [lookAll, Option.some.injEq] at h
    subst h
    exact ⟨rfl, fun j b hb => by simp at hb⟩
  | x :: l, ks, h => by
    simp only [lookAll] at h
    cases hb : look x M with
    | none => simp [hb] at h
    | some k =>
      simp only [hb] at h
      cases hr : lookAll M l with
      | none => simp [hr] at h
      | some ks' =>
        simp only [hr, Option.some.injEq] at h
        subst h
        obtain ⟨h1, h2⟩ := lookAll_at hr
        refine ⟨by simp [h1], fun j b hj => ?_⟩
        cases j with
        | zero =>
          simp only [List.getElem?_cons_zero, Option.some.injEq] at hj
          subst hj
          exact ⟨k, rfl, hb⟩
        | succ j =>
          simp only [List.getElem?_cons_succ] at hj ⊢
          exact h2 j b hj
theorem lookZ_mem {b : Nat} : ∀ {ms : List Nat} {ks : List Blk} {k : Blk}, lookZ b ms ks = some k → ∃ j : Nat, ms[j]? = some b ∧ ks[j]? = some k
  | [], ks, k, h => by cases ks <;> cases h
  | m :: ms, [], k, h => by cases h
  | m :: ms, x :: ks, k, h => by
    simp only [lookZ] at h
    by_cases e : m = b
    · subst e
      simp only [beqT, cond_true, Option.some.injEq] at h
      exact ⟨0, rfl, by rw [h]; rfl⟩
    · simp only [beqF e, cond_false] at h
      obtain ⟨j, h1, h2⟩ := lookZ_mem h
      exact ⟨j + 1, by simpa using h1, by simpa using h2⟩
theorem lookZ_look {M : Mem} {ms : List Nat} {ks : List Blk} (hl : lookAll M ms = some ks) {b : Nat} {k : Blk} (h : lookZ b ms ks = some k) : look b M = some k ∧ b ∈ ms := by
  obtain ⟨j, h1, h2⟩ := lookZ_mem h
  obtain ⟨k', h3, h4⟩ := (lookAll_at hl).2 j b h1
  rw [h2] at h3
  injection h3 with h3
  subst h3
  exact ⟨h4, List.mem_of_getElem? h1⟩
theorem heap_lt {w : World} {g : Nat} {o : Obj} (h : w.heap[g]? = some o) : g < w.heap.size := (Array.getElem?_eq_some_iff.1 h).1
theorem blk_good {M : Mem} {w : World} (hM : MemR E σ M w) {b : Nat} {k : Blk} (h : look b M = some k) : k.good := by
  have hB := hM.blk b _ h
  revert hB
  cases σ b with
  | unset => intro h; exact h.elim
  | nil => intro h; exact h.2
  | «at» L => intro h; exact h.1
def inFeet (σ : Sig) (fs : List Nat) (g : Nat) : Prop := ∃ b ∈ fs, ∃ L, σ b = .at L ∧ L.g = g
def callE (E : Env) (σ : Sig) (w : World) (fs : List Nat) (lent : Bool) (κ : Sig) : Env :=
  { P := E.P, w0 := w, old := fun g => (E.old g ∨ (lent = true ∧ ¬ E.fz g)) ∧ (g < w.heap.size ∧ ¬ inFeet σ fs g), fz := fun g => g < w.heap.size ∧ ¬ inFeet σ fs g, sub := fun _ h => h.2, kp := κ }
section
variable {M : Mem} {w : World} {fs ms : List Nat} {kfs kms : List Blk} {lent : Bool} {κ : Sig}
theorem feet_at (hfs : lookAll M fs = some kfs) {b : Nat} (hb : b ∈ fs) : ∃ k, look b M = some k := by
  obtain ⟨j, hj⟩ := List.mem_iff_getElem?.1 hb
  obtain ⟨k, _, h⟩ := (lookAll_at hfs).2 j b hj
  exact ⟨k, h⟩
theorem fz_out (hM : MemR E σ M w) (hfs : lookAll M fs = some kfs) {g : Nat} (hg : E.fz g) : g < w.heap.size ∧ ¬ inFeet σ fs g := by
  refine ⟨Nat.lt_of_lt_of_le (hM.olds g hg) hM.size, ?_⟩
  rintro ⟨b, hb, L, hL, rfl⟩
  obtain ⟨k, hk⟩ := feet_at hfs hb
  have hB := hM.blk b k hk
  rw [hL] at hB
  obtain ⟨_, arr, elem, lo, hi, _, _, _, q4, _⟩ := hB
  exact q4 hg
theorem grow0 (hM : MemR E σ M w) (hfs : lookAll M fs = some kfs) : Grow E (callE E σ w fs lent κ) where
  P := rfl
  old g hg := ⟨.inl hg, fz_out hM hfs (E.sub g hg)⟩
  fz g hg := fz_out hM hfs hg
  w0 g hg := hM.old g hg
  new g hg := by
    rcases hg.1 with h | h
    · exact .inl h
    · exact .inr h.2
  size := hM.size
  os := hM.os
  tape := hM.tape
  output := hM.output
theorem sl_out (hM : MemR E σ M w) (hfs : lookAll M fs = some kfs) (hd : ∀ b ∈ ms, b ∉ fs) {b : Nat} {k : Blk} {L : Loc} (hb : look b M = some k) (hms : b ∈ ms) (hL : σ b = .at L) : L.g < w.heap.size ∧ ¬ inFeet σ fs L.g ∧ ¬ E.fz L.g := by
  have hB := hM.blk b k hb
  rw [hL] at hB
  have hB' := hB
  obtain ⟨_, arr, elem, lo, hi, q1, _, _, q4, _⟩ := hB
  refine ⟨heap_lt q1, ?_, q4⟩
  rintro ⟨c, hc, L', hL', he⟩
  obtain ⟨k', hk'⟩ := feet_at hfs hc
  have := hM.inj c b k' k L' L hk' hb hL' hL he
  subst this
  exact hd c hms hc
theorem roOf_R (hM : MemR E σ M w) (hfs : lookAll M fs = some kfs) (hl : lookAll M ms = some kms) (hd : ∀ b ∈ ms, b ∉ fs) (hlent : ms ≠ [] → lent = true) {k : IntKind} {s : Sc} {C : Prop} {xs : List Int} {V : Value}
    (h : roOf k ms kms s = some (C, xs)) (hC : C) (hV : ScR E σ s V) : RoR (callE E σ w fs lent κ) k xs V := by
  unfold roOf at h
  split at h
  · split at h
    · rename_i hk
      subst hk
      simp only [Option.some.injEq, Prod.mk.injEq] at h
      obtain ⟨_, rfl⟩ := h
      exact (grow0 hM hfs).ro hV
    · cases h
  · simp only [Option.some.injEq, Prod.mk.injEq] at h
    obtain ⟨_, rfl⟩ := h
    have h4 : V = .slice none 0 0 := hV
    exact ⟨none, 0, h4, by simp, by simp⟩
  · rename_i b off len cap
    split at h
    · rename_i k' n zs hz
      split at h
      · rename_i hk
        subst hk
        simp only [Option.some.injEq, Prod.mk.injEq] at h
        obtain ⟨rfl, rfl⟩ := h
        obtain ⟨hblk, hmem⟩ := lookZ_look hl hz
        have hg0 : zs.length = n := blk_good hM hblk
        rw [part1_eq hg0]
        have hC : off + len ≤ n := hC
        rcases hV with ⟨q1, _, A, rfl⟩ | ⟨L, c, hL, rfl, q1, q2, q3⟩
        · subst q1
          exact ⟨A, 0, by simp, by simp, by simp⟩
        · obtain ⟨o1, o2, o3⟩ := sl_out hM hfs hd hblk hmem hL
          have hB := hM.blk b _ hblk
          rw [hL] at hB
          obtain ⟨g1, arr, elem, lo, hi, p1, p2, p3, p4, p5, p6⟩ := hB
          simp only [Blk.good] at g1
          have hlen : ((zs.drop off).take len).length = len := by simp; omega
          refine ⟨some ⟨L.g, L.β + off, none⟩, c, by rw [hlen], by rw [hlen]; exact q1, fun _ => ⟨_, rfl, ⟨.inr ⟨hlent (List.ne_nil_of_mem hmem), o3⟩, o1, o2⟩, fun j hj => ?_⟩⟩
          rw [hlen] at hj
          have hget : zs[off + j]? = some (zs.getD (off + j) 0) := by
            rw [List.getD_eq_getElem?_getD, List.getElem?_eq_getElem (by omega)]; rfl
          obtain ⟨v, e3, e4⟩ := p6 (off + j) (.i k' (zs.getD (off + j) 0)) (by show (zs[off + j]?).map _ = _; rw [hget]; rfl)
          simp only [ScR] at e4
          subst e4
          have : ((zs.drop off).take len).getD j 0 = zs.getD (off + j) 0 := by
            simp [List.getD_eq_getElem?_getD, List.getElem?_take, List.getElem?_drop, hj]
          rw [this, addr_add]
          show w.cell? _ = _
          have hlt : L.β + off + j < L.sz := by have := p3; simp only [Blk.len] at this; omega
          have := p5.1 (L.β + off + j) hlt
          simp [World.cell?, p1, this]
          rw [Nat.add_assoc]
          exact e3
      · cases h
    · rename_i hz
      simp only [Option.some.injEq, Prod.mk.injEq] at h
      obtain ⟨rfl, rfl⟩ := h
      rcases hV with ⟨q1, _, A, rfl⟩ | ⟨L, c, hL, rfl, q1, q2, q3⟩
      · exact ⟨A, 0, by simp, by simp, by simp⟩
      · have hC : len = 0 := hC
        subst hC
        exact ⟨_, c, rfl, by simp, by simp⟩
    · cases h
  · cases h
theorem rowsOf_R (hM : MemR E σ M w) (hfs : lookAll M fs = some kfs) (hl : lookAll M ms = some kms) (hd : ∀ b ∈ ms, b ∉ fs) (hlent : ms ≠ [] → lent = true) : ∀ {l : List Sc} {C : Prop} {xss : List (List Int)},
    rowsOf ms kms l = some (C, xss) → C → xss.length = l.length ∧ ∀ j s, l[j]? = some s → ∀ V, ScR E σ s V → RoR (callE E σ w fs lent κ) .u8 (xss.getD j []) V
  | [], C, xss, h, hC => by
    simp only [rowsOf, Option.some.injEq, Prod.mk.injEq] at h
    obtain ⟨_, rfl⟩ := h
    exact ⟨rfl, fun j s hs => by simp at hs⟩
  | s :: r, C, xss, h, hC => by
    simp only [rowsOf] at h
    split at h
    · rename_i C1 xs C2 xss' h1 h2
      simp only [Option.some.injEq, Prod.mk.injEq] at h
      obtain ⟨rfl, rfl⟩ := h
      obtain ⟨i1, i2⟩ := rowsOf_R hM hfs hl hd hlent h2 hC.2
      refine ⟨by simp [i1], fun j s' hs V hV => ?_⟩
      cases j with
      | zero =>
        simp only [List.getElem?_cons_zero, Option.some.injEq] at hs
        subst hs
        simpa using roOf_R hM hfs hl hd hlent h1 hC.1 hV
      | succ j => simpa using i2 j s' (by simpa using hs) V hV
    · cases h
theorem lent_R (hM : MemR E σ M w) (hfs : lookAll M fs = some kfs) (hl : lookAll M ms = some kms) (hd : ∀ b ∈ ms, b ∉ fs) (hlent : ms ≠ [] → lent = true) {b off len : Nat} {cap : Option Nat} {k : Blk} {V : Value}
    (hz : lookZ b ms kms = some k) (hC : off + len ≤ k.len) (hV : ScR E σ (.sl b off len 1 cap) V) :
    ∃ A c, V = .slice A len c ∧ len ≤ c ∧ (0 < len → ∃ ad, A = some ad ∧ (callE E σ w fs lent κ).old ad.block ∧ ∀ j, j < len → ∃ s v, k.get? (off + j) = some s ∧ w.cell? (ad.add j) = some v ∧ ScR E σ s v) := by
  obtain ⟨hblk, hmem⟩ := lookZ_look hl hz
  have hB := hM.blk b _ hblk
  rcases hV with ⟨q1, _, A, rfl⟩ | ⟨L, c, hL, rfl, q1, q2, q3⟩
  · subst q1
    exact ⟨A, 0, rfl, Nat.le_refl _, fun h => absurd h (Nat.lt_irrefl _)⟩
  · obtain ⟨o1, o2, o3⟩ := sl_out hM hfs hd hblk hmem hL
    rw [hL] at hB
    obtain ⟨g1, arr, elem, lo, hi, p1, p2, p3, p4, p5, p6⟩ := hB
    refine ⟨_, c, rfl, q1, fun _ => ⟨_, rfl, ⟨.inr ⟨hlent (List.ne_nil_of_mem hmem), o3⟩, o1, o2⟩, fun j hj => ?_⟩⟩
    obtain ⟨s, hs⟩ := Blk.get_some g1 (show off + j < k.len by omega)
    obtain ⟨v, e3, e4⟩ := p6 (off + j) _ hs
    refine ⟨s, v, hs, ?_, e4⟩
    rw [addr_add]
    have hlt : L.β + off + j < L.sz := by omega
    have := p5.1 (L.β + off + j) hlt
    simp [World.cell?, p1, this]
    rw [Nat.add_assoc]
    exact e3
theorem lend_R (hM : MemR E σ M w) (hfs : lookAll M fs = some kfs) (hl : lookAll M ms = some kms) (hd : ∀ b ∈ ms, b ∉ fs) (hlent : ms ≠ [] → lent = true) {ns : Ren} {U : Nat} (hns : renOk ns U = true) :
    ∀ {ps : List Pass} {args vs : List AV} {m : List Value} {C : Prop}, lendAll ns ms kms ps args = some (C, vs) → C → All2 (AVR E σ) args m → All2 (AVR (callE E σ w fs lent (sigOf σ ns)) (sigOf σ ns)) vs m := by
  intro ps
  induction ps with
  | nil =>
    intro args vs m C h2 hC h3
    cases args with
    | nil =>
      simp only [lendAll, Option.some.injEq, Prod.mk.injEq] at h2
      obtain ⟨_, rfl⟩ := h2
      cases m with
      | nil => trivial
      | cons _ _ => exact h3.elim
    | cons _ _ => simp [lendAll] at h2
  | cons p ps ih =>
    intro args vs m C h2 hC h3
    cases args with
    | nil => cases p <;> simp [lendAll] at h2
    | cons v r =>
      cases m with
      | nil => exact h3.elim
      | cons V m =>
        have hg := grow0 (lent := lent) (κ := sigOf σ ns) hM hfs
        cases p with
        | val =>
          cases v with
          | sc s =>
            simp only [lendAll] at h2
            split at h2
            · rename_i C' vs' e1 e2
              simp only [Option.some.injEq, Prod.mk.injEq] at h2
              obtain ⟨rfl, rfl⟩ := h2
              refine ⟨?_, ih e2 hC h3.2⟩
              have h4 := h3.1
              cases s <;> first | exact h4 | exact Bool.noConfusion (show false = true from e1)
            · cases h2
          | ints k n xs =>
            simp only [lendAll] at h2
            split at h2
            · rename_i C' vs' e2
              simp only [Option.some.injEq, Prod.mk.injEq] at h2
              obtain ⟨rfl, rfl⟩ := h2
              exact ⟨h3.1, ih e2 hC h3.2⟩
            · cases h2
          | agg l => simp [lendAll] at h2
          | tup l => simp [lendAll] at h2
        | ro k =>
          cases v with
          | ints _ _ _ => simp [lendAll] at h2
          | agg l => simp [lendAll] at h2
          | tup l => simp [lendAll] at h2
          | sc s =>
            simp only [lendAll] at h2
            split at h2
            · rename_i C1 xs C2 vs' e1 e2
              simp only [Option.some.injEq, Prod.mk.injEq] at h2
              obtain ⟨rfl, rfl⟩ := h2
              exact ⟨roOf_R hM hfs hl hd hlent e1 hC.1 h3.1, ih e2 hC.2 h3.2⟩
            · cases h2
        | io =>
          have h2' : (match v.ren ns, lendAll ns ms kms ps r with
            | some v', some (C, vs) => some (C, v' :: vs)
            | _, _ => none) = some (C, vs) := by
            cases v <;> simpa only [lendAll] using h2
          split at h2'
          · rename_i v' C' vs' e1 e2
            simp only [Option.some.injEq, Prod.mk.injEq] at h2'
            obtain ⟨rfl, rfl⟩ := h2'
            exact ⟨(AV.ren_R hns e1 h3.1).grow hg, ih e2 hC h3.2⟩
          · cases h2'
        | rob =>
          cases v with
          | ints _ _ _ => simp [lendAll] at h2
          | agg l => simp [lendAll] at h2
          | tup l => simp [lendAll] at h2
          | sc s =>
            cases s with
            | rob xs =>
              simp only [lendAll] at h2
              split at h2
              · rename_i C' vs' e2
                simp only [Option.some.injEq, Prod.mk.injEq] at h2
                obtain ⟨rfl, rfl⟩ := h2
                exact ⟨AVR.grow (v := .sc (.rob xs)) (σ := sigOf σ ns) hg h3.1, ih e2 hC h3.2⟩
              · cases h2
            | sl b off len es cap =>
              simp only [lendAll] at h2
              split at h2
              · rename_i l hz
                split at h2
                · rename_i C0 xss C' vs' e1 e2
                  cases hes : Nat.beq es 1
                  · simp [hes] at h2
                  · simp only [hes, cond_true, Option.some.injEq, Prod.mk.injEq] at h2
                    obtain ⟨rfl, rfl⟩ := h2
                    have hes1 := Nat.eq_of_beq_eq_true hes
                    subst hes1
                    refine ⟨?_, ih e2 hC.2 h3.2⟩
                    obtain ⟨hle, hC0⟩ := hC.1
                    obtain ⟨hblk, hmem⟩ := lookZ_look hl hz
                    obtain ⟨i1, i2⟩ := rowsOf_R (κ := sigOf σ ns) hM hfs hl hd hlent e1 hC0
                    have hll : ((l.drop off).take len).length = len := by simp; omega
                    rw [hll] at i1
                    have hB := hM.blk b _ hblk
                    rcases h3.1 with ⟨q1, _, A, rfl⟩ | ⟨L, c, hL, rfl, q1, q2, q3⟩
                    · exact ⟨A, 0, by simp [i1, q1], by simp [i1, q1], by simp [i1, q1]⟩
                    · obtain ⟨o1, o2, o3⟩ := sl_out hM hfs hd hblk hmem hL
                      rw [hL] at hB
                      obtain ⟨g1, arr, elem, lo, hi, p1, p2, p3, p4, p5, p6⟩ := hB
                      refine ⟨some ⟨L.g, L.β + off, none⟩, c, by rw [i1], by rw [i1]; exact q1, fun _ => ⟨_, rfl, ⟨.inr ⟨hlent (List.ne_nil_of_mem hmem), o3⟩, o1, o2⟩, fun j hj => ?_⟩⟩
                      rw [i1] at hj
                      have hget : l[off + j]? = some (l[off + j]'(by omega)) := List.getElem?_eq_getElem _
                      obtain ⟨v, e3, e4⟩ := p6 (off + j) _ hget
                      refine ⟨v, ?_, i2 j (l[off + j]'(by omega)) (by simp [List.getElem?_take, List.getElem?_drop, hj, hget]) v e4⟩
                      rw [addr_add]
                      show w.cell? _ = _
                      have hlt : L.β + off + j < L.sz := by have := p3; simp only [Blk.len] at this; omega
                      have := p5.1 (L.β + off + j) hlt
                      simp [World.cell?, p1, this]
                      rw [Nat.add_assoc]
                      exact e3
                · cases h2
              · rename_i xs hz
                split at h2
                · rename_i C' vs' e2
                  cases hes : Nat.beq es 1
                  · simp [hes] at h2
                  · simp only [hes, cond_true, Option.some.injEq, Prod.mk.injEq] at h2
                    obtain ⟨rfl, rfl⟩ := h2
                    have hes1 := Nat.eq_of_beq_eq_true hes
                    subst hes1
                    refine ⟨?_, ih e2 hC.2 h3.2⟩
                    have hle : off + len ≤ xs.length := hC.1
                    rw [partV_eq]
                    have hll : ((xs.drop off).take len).length = len := by simp; omega
                    obtain ⟨A, c, rfl, q1, q2⟩ := lent_R (κ := sigOf σ ns) hM hfs hl hd hlent hz hC.1 h3.1
                    refine ⟨A, c, by rw [hll], by rw [hll]; exact q1, fun hp => ?_⟩
                    rw [hll] at hp
                    obtain ⟨ad, rfl, o1, o2⟩ := q2 hp
                    refine ⟨ad, rfl, o1, fun j hj => ?_⟩
                    rw [hll] at hj
                    obtain ⟨s, v, a1, a2, a3⟩ := o2 j hj
                    have hget : xs[off + j]? = some (xs.getD (off + j) []) := by
                      rw [List.getD_eq_getElem?_getD, List.getElem?_eq_getElem (by omega)]; rfl
                    have hs : s = .ro .u8 (xs.getD (off + j) []) := by
                      have : (xs[off + j]?).map (VK.sc .row) = some s := a1
                      rw [hget] at this
                      injection this with this
                      exact this.symm
                    subst hs
                    have : ((xs.drop off).take len).getD j [] = xs.getD (off + j) [] := by
                      simp [List.getD_eq_getElem?_getD, List.getElem?_take, List.getElem?_drop, hj]
                    rw [this]
                    exact ⟨v, a2, hg.ro a3⟩
                · cases h2
              · cases h2
            | nils =>
              simp only [lendAll] at h2
              split at h2
              · rename_i C' vs' e2
                simp only [Option.some.injEq, Prod.mk.injEq] at h2
                obtain ⟨rfl, rfl⟩ := h2
                exact ⟨⟨none, 0, h3.1, Nat.le_refl _, fun h => absurd h (Nat.lt_irrefl _)⟩, ih e2 hC h3.2⟩
              · cases h2
            | _ => simp [lendAll] at h2
        | ros =>
          cases v with
          | ints _ _ _ => simp [lendAll] at h2
          | agg l => simp [lendAll] at h2
          | tup l => simp [lendAll] at h2
          | sc s =>
            cases s with
            | ros xs =>
              simp only [lendAll] at h2
              split at h2
              · rename_i C' vs' e2
                simp only [Option.some.injEq, Prod.mk.injEq] at h2
                obtain ⟨rfl, rfl⟩ := h2
                exact ⟨AVR.grow (v := .sc (.ros xs)) (σ := sigOf σ ns) hg h3.1, ih e2 hC h3.2⟩
              · cases h2
            | nils =>
              simp only [lendAll] at h2
              split at h2
              · rename_i C' vs' e2
                simp only [Option.some.injEq, Prod.mk.injEq] at h2
                obtain ⟨rfl, rfl⟩ := h2
                exact ⟨⟨none, 0, h3.1, Nat.le_refl _, fun h => absurd h (Nat.lt_irrefl _)⟩, ih e2 hC h3.2⟩
              · cases h2
            | sl b off len es cap =>
              simp only [lendAll] at h2
              split at h2
              · rename_i xs hz
                split at h2
                · rename_i C' vs' e2
                  cases hes : Nat.beq es 1
                  · simp [hes] at h2
                  · simp only [hes, cond_true, Option.some.injEq, Prod.mk.injEq] at h2
                    obtain ⟨rfl, rfl⟩ := h2
                    have hes1 := Nat.eq_of_beq_eq_true hes
                    subst hes1
                    refine ⟨?_, ih e2 hC.2 h3.2⟩
                    have hle : off + len ≤ xs.length := hC.1
                    rw [partV_eq]
                    have hll : ((xs.drop off).take len).length = len := by simp; omega
                    obtain ⟨A, c, rfl, q1, q2⟩ := lent_R (κ := sigOf σ ns) hM hfs hl hd hlent hz hC.1 h3.1
                    refine ⟨A, c, by rw [hll], by rw [hll]; exact q1, fun hp => ?_⟩
                    rw [hll] at hp
                    obtain ⟨ad, rfl, o1, o2⟩ := q2 hp
                    refine ⟨ad, rfl, o1, fun j hj => ?_⟩
                    rw [hll] at hj
                    obtain ⟨s, v, a1, a2, a3⟩ := o2 j hj
                    have hget : xs[off + j]? = some (xs.getD (off + j) ⟨#[]⟩) := by
                      rw [List.getD_eq_getElem?_getD, List.getElem?_eq_getElem (by omega)]; rfl
                    have hs : s = .s (xs.getD (off + j) ⟨#[]⟩) := by
                      have : (xs[off + j]?).map (VK.sc .str) = some s := a1
                      rw [hget] at this
                      injection this with this
                      exact this.symm
                    subst hs
                    have : ((xs.drop off).take len).getD j ⟨#[]⟩ = xs.getD (off + j) ⟨#[]⟩ := by
                      simp [List.getD_eq_getElem?_getD, List.getElem?_take, List.getElem?_drop, hj]
                    rw [this]
                    have a3' : v = .string (xs.getD (off + j) ⟨#[]⟩) := a3
                    rw [← a3']
                    exact a2
                · cases h2
              · rename_i l hz
                split at h2
                · rename_i xs C' vs' e1 e2
                  cases hes : Nat.beq es 1
                  · simp [hes] at h2
                  · simp only [hes, cond_true, Option.some.injEq, Prod.mk.injEq] at h2
                    obtain ⟨rfl, rfl⟩ := h2
                    have hes1 := Nat.eq_of_beq_eq_true hes
                    subst hes1
                    refine ⟨?_, ih e2 hC.2 h3.2⟩
                    have hle : off + len ≤ l.length := hC.1
                    have hll : xs.length = len := by rw [VK.unL_len e1]; simp; omega
                    obtain ⟨A, c, rfl, q1, q2⟩ := lent_R (κ := sigOf σ ns) hM hfs hl hd hlent hz hC.1 h3.1
                    refine ⟨A, c, by rw [hll], by rw [hll]; exact q1, fun hp => ?_⟩
                    rw [hll] at hp
                    obtain ⟨ad, rfl, o1, o2⟩ := q2 hp
                    refine ⟨ad, rfl, o1, fun j hj => ?_⟩
                    rw [hll] at hj
                    obtain ⟨s, v, a1, a2, a3⟩ := o2 j hj
                    have hx : xs[j]? = some (xs.getD j ⟨#[]⟩) := by
                      rw [List.getD_eq_getElem?_getD, List.getElem?_eq_getElem (by omega)]; rfl
                    obtain ⟨s', b1, b2⟩ := VK.unL_get e1 hx
                    have hs : s' = s := by
                      have c1 : l[off + j]? = some s := a1
                      rw [List.getElem?_take, if_pos hj, List.getElem?_drop, c1] at b1
                      injection b1 with b1
                      exact b1.symm
                    subst hs
                    have a3' : v = .string (xs.getD j ⟨#[]⟩) := VK.un_R b2 a3
                    rw [← a3']
                    exact a2
                · cases h2
              · cases h2
            | _ => simp [lendAll] at h2
theorem Blk.grow {E E' : Env} {σ : Sig} {k : Blk} {w : World} (hg : Grow E E') : ∀ {L : Pl}, (∀ l, L = .at l → ¬ E'.fz l.g) → BlkR E σ w k L → BlkR E' σ w k L
  | .unset, _, h => h
  | .nil, _, h => h
  | .at L, hz, h => by
    obtain ⟨g1, arr, elem, lo, hi, q1, q2, q3, q4, q5, q6⟩ := h
    refine ⟨g1, arr, elem, lo, hi, q1, q2, q3, hz L rfl, q5, fun j s hs => ?_⟩
    obtain ⟨v, e1, e2⟩ := q6 j s hs
    exact ⟨v, e1, ScR.grow hg e2⟩
theorem downB_at {ns : Ren} : ∀ {ks ks' : List Blk}, downB ns ks = some ks' → ks'.length = ks.length ∧ ∀ (j : Nat) (k' : Blk), ks'[j]? = some k' → ∃ k, ks[j]? = some k ∧ k.ren ns = some k'
  | [], ks', h => by
    simp only [downB, Option.some.injEq] at h
    subst h
    exact ⟨rfl, fun j k' hk => by simp at hk⟩
  | k :: r, ks', h => by
    simp only [downB] at h
    split at h
    · rename_i k1 r1 h1 h2
      simp only [Option.some.injEq] at h
      subst h
      obtain ⟨i1, i2⟩ := downB_at h2
      refine ⟨by simp [i1], fun j k' hk => ?_⟩
      cases j with
      | zero =>
        simp only [List.getElem?_cons_zero, Option.some.injEq] at hk
        subst hk
        exact ⟨k, rfl, h1⟩
      | succ j => exact i2 j k' (by simpa using hk)
    · cases h
theorem upB_at {up : Ren} : ∀ {l l' : List (Option Blk)}, upB up l = some l' → l'.length = l.length ∧ ∀ (j : Nat) (k' : Blk), l'[j]? = some (some k') → ∃ k, l[j]? = some (some k) ∧ k.ren up = some k'
  | [], l', h => by
    simp only [upB, Option.some.injEq] at h
    subst h
    exact ⟨rfl, fun j k' hk => by simp at hk⟩
  | none :: r, l', h => by
    simp only [upB] at h
    split at h
    · rename_i r1 h2
      simp only [Option.some.injEq] at h
      subst h
      obtain ⟨i1, i2⟩ := upB_at h2
      refine ⟨by simp [i1], fun j k' hk => ?_⟩
      cases j with
      | zero => simp at hk
      | succ j => exact i2 j k' (by simpa using hk)
    · cases h
  | some k :: r, l', h => by
    simp only [upB] at h
    split at h
    · rename_i k1 r1 h1 h2
      simp only [Option.some.injEq] at h
      subst h
      obtain ⟨i1, i2⟩ := upB_at h2
      refine ⟨by simp [i1], fun j k' hk => ?_⟩
      cases j with
      | zero =>
        simp only [List.getElem?_cons_zero, Option.some.injEq] at hk
        subst hk
        exact ⟨k, rfl, h1⟩
      | succ j => exact i2 j k' (by simpa using hk)
    · cases h
theorem zipN_look {i : Nat} : ∀ {l : List Blk} {b : Nat} {k : Blk}, look b (zipN i l) = some k → ∃ j, b = i + j ∧ l[j]? = some k
  | l, b, k, h => by
    induction l generalizing i with
    | nil => cases h
    | cons x r ih =>
      simp only [zipN, look] at h
      by_cases e : i = b
      · subst e
        simp only [beqT, cond_true, Option.some.injEq] at h
        exact ⟨0, rfl, by simp [h]⟩
      · simp only [beqF e, cond_false] at h
        obtain ⟨j, h1, h2⟩ := ih h
        exact ⟨j + 1, by omega, by simpa using h2⟩
theorem zipO_get {i : Nat} : ∀ {l : List (Option Blk)} {j : Nat} {k : Blk}, l[j]? = some (some k) → look (i + j) (zipO i l) = some k
  | l, j, k, h => by
    induction l generalizing i j with
    | nil => simp at h
    | cons x r ih =>
      cases j with
      | zero =>
        simp only [List.getElem?_cons_zero, Option.some.injEq] at h
        subst h
        simp [zipO, look, beqT]
      | succ j =>
        have := ih (i := i + 1) (j := j) (by simpa using h)
        rw [show i + (j + 1) = i + 1 + j by omega]
        cases x with
        | none => exact this
        | some y =>
          simp only [zipO, look]
          have e : i ≠ i + 1 + j := by omega
          simp only [beqF e, cond_false]
          exact this
theorem putAll_at {M' : Mem} {c : Nat} {k : Blk} (hk : look c M' = some k) : ∀ {ns : List Nat} {ks : List (Option Blk)} {M : Mem}, putAll ns ks M = some M' → (∃ i : Nat, ns[i]? = some c ∧ ks[i]? = some (some k)) ∨ (c ∉ ns ∧ look c M = some k)
  | [], [], M, h => by
    simp only [putAll, Option.some.injEq] at h
    subst h
    exact .inr ⟨by simp, hk⟩
  | [], _ :: _, M, h => by simp [putAll] at h
  | _ :: _, [], M, h => by simp [putAll] at h
  | b :: r, x :: ks, M, h => by
    simp only [putAll] at h
    rcases putAll_at hk h with ⟨i, h1, h2⟩ | ⟨h1, h2⟩
    · exact .inl ⟨i + 1, by simpa using h1, by simpa using h2⟩
    · cases x with
      | none =>
        simp only [put0, look_drop1] at h2
        split at h2
        · cases h2
        · rename_i e
          exact .inr ⟨by simp only [List.mem_cons, not_or]; exact ⟨e, h1⟩, h2⟩
      | some y =>
        simp only [put0, look_put1] at h2
        split at h2
        · rename_i e
          injection h2 with h2
          exact .inl ⟨0, by simp [e], by simp [h2]⟩
        · rename_i e
          exact .inr ⟨by simp only [List.mem_cons, not_or]; exact ⟨e, h1⟩, h2⟩
theorem downN_mem {j b : Nat} (h : fs[j]? = some b) : (b, j) ∈ downN fs := by
  have hj := (List.getElem?_eq_some_iff.1 h).1
  refine List.mem_iff_getElem?.2 ⟨j, ?_⟩
  unfold downN
  rw [List.getElem?_zip_eq_some]
  exact ⟨h, by rw [List.getElem?_range hj]⟩
theorem upN_mem {j c : Nat} : (j, c) ∈ upN fs nm nb ↔ (fs ++ (List.range nb).map (nm + ·))[j]? = some c := by
  unfold upN
  constructor
  · intro h
    obtain ⟨i, hi⟩ := List.mem_iff_getElem?.1 h
    rw [List.getElem?_zip_eq_some] at hi
    obtain ⟨h1, h2⟩ := hi
    have hi' := (List.getElem?_eq_some_iff.1 h1).1
    simp only [List.length_range] at hi'
    rw [List.getElem?_range hi'] at h1
    injection h1 with h1
    subst h1
    exact h2
  · intro h
    have hj := (List.getElem?_eq_some_iff.1 h).1
    simp only [List.length_append, List.length_map, List.length_range] at hj
    refine List.mem_iff_getElem?.2 ⟨j, ?_⟩
    rw [List.getElem?_zip_eq_some]
    exact ⟨by rw [List.getElem?_range hj], h⟩
theorem up_cases {j c : Nat} (h : (fs ++ (List.range nb).map (nm + ·))[j]? = some c) : (j < fs.length ∧ fs[j]? = some c) ∨ (fs.length ≤ j ∧ j - fs.length < nb ∧ c = nm + (j - fs.length)) := by
  by_cases hj : j < fs.length
  · rw [List.getElem?_append_left hj] at h
    exact .inl ⟨hj, h⟩
  · rw [List.getElem?_append_right (by omega)] at h
    simp only [List.getElem?_map, Option.map_eq_some_iff] at h
    obtain ⟨i, h1, h2⟩ := h
    have h3 := (List.getElem?_eq_some_iff.1 h1).1
    simp only [List.length_range] at h3
    rw [List.getElem?_range h3] at h1
    injection h1 with h1
    subst h1
    exact .inr ⟨by omega, h3, h2.symm⟩
theorem handed (hM : MemR E σ M w) (hfs : lookAll M fs = some kfs) {ks' : List Blk} (hns : renOk (downN fs) big = true) (hdn : downB (downN fs) kfs = some ks') :
    MemR (callE E σ w fs lent (sigOf σ (downN fs))) (sigOf σ (downN fs)) (zipN 0 ks') w := by
  obtain ⟨l1, l2⟩ := downB_at hdn
  obtain ⟨f1, f2⟩ := lookAll_at hfs
  have at1 : ∀ b k', look b (zipN 0 ks') = some k' → ∃ c k, fs[b]? = some c ∧ look c M = some k ∧ k.ren (downN fs) = some k' ∧ sigOf σ (downN fs) b = σ c := by
    intro b k' hb
    obtain ⟨j, rfl, hj⟩ := zipN_look hb
    obtain ⟨k, e1, e2⟩ := l2 j k' hj
    have hlt := (List.getElem?_eq_some_iff.1 e1).1
    have hc : fs[j]? = some (fs[j]'(by omega)) := List.getElem?_eq_getElem _
    obtain ⟨k2, e3, e4⟩ := f2 j _ hc
    rw [e1] at e3
    injection e3 with e3
    subst e3
    have hmem := downN_mem hc
    rw [Nat.zero_add]
    exact ⟨_, k, hc, e4, e2, sigOf_at hns (renOk_mem hns hmem).2.2⟩
  refine { blk := ?_, inj := ?_, old := fun _ _ => rfl, size := Nat.le_refl _, olds := fun g hg => hg.1, os := rfl, tape := rfl, output := rfl }
  · intro b k' hb
    obtain ⟨c, k, e1, e2, e3, e4⟩ := at1 b k' hb
    rw [e4]
    have hB := Blk.ren_R hns e3 (hM.blk c k e2)
    refine Blk.grow (grow0 hM hfs) (fun l hl hz => ?_) hB
    exact hz.2 ⟨c, List.mem_of_getElem? e1, l, hl, rfl⟩
  · intro b c x y L L' hb hc hL hL' hg
    obtain ⟨b1, k1, e1, e2, e3, e4⟩ := at1 b x hb
    obtain ⟨c1, k2, e5, e6, e7, e8⟩ := at1 c y hc
    have := hM.inj b1 c1 k1 k2 L L' e2 e6 (e4 ▸ hL) (e8 ▸ hL') hg
    subst this
    have h1 := (renOk_mem hns (downN_mem e1)).2.2
    have h2 := (renOk_mem hns (downN_mem e5)).2.2
    rw [h1] at h2
    injection h2
def backE (E E0 E1 : Env) (lent : Bool) : Env :=
  { P := E.P, w0 := E1.w0, old := fun g => (if lent = true then E.old g else E1.old g) ∧ (E.fz g ∨ (E1.fz g ∧ ¬ E0.fz g)), fz := fun g => E.fz g ∨ (E1.fz g ∧ ¬ E0.fz g), sub := fun _ h => h.2, kp := E.kp }
def sigUp (σ σ' : Sig) (up : Ren) : Sig := fun c => match sigOf σ' up c with
  | .unset => σ c
  | x => x
theorem back_grow {E1 : Env} (hg : Grow E E0) (hg' : Grow E0 E1) (hl : lent = false → ∀ g, E0.old g → E.old g) : Grow E (backE E E0 E1 lent) where
  P := rfl
  old g h := ⟨by split; exact h; exact hg'.old g (hg.old g h), .inl (E.sub g h)⟩
  fz g h := .inl h
  w0 g h := (hg'.w0 g (hg.fz g h)).trans (hg.w0 g h)
  new g h := by
    cases hb : lent with
    | true =>
      have h1 := h.1
      rw [if_pos hb] at h1
      exact .inl h1
    | false =>
      have h1 := h.1
      rw [if_neg (by rw [hb]; decide)] at h1
      rcases hg'.new g h1 with h2 | h2
      · exact .inl (hl hb g h2)
      · exact .inr fun h3 => h2 (hg.fz g h3)
  size := Nat.le_trans hg.size hg'.size
  os := hg'.os.trans hg.os
  tape := hg'.tape.trans hg.tape
  output := hg'.output.trans hg.output
theorem back_old {E1 : Env} (hg : Grow E E0) (hg' : Grow E0 E1) (hl : lent = false → ∀ g, E0.old g → E.old g) : lent = false → ∀ g, E1.old g → (backE E E0 E1 lent).old g := by
  intro hb g h
  refine ⟨by rw [if_neg (by rw [hb]; decide)]; exact h, ?_⟩
  rcases hg'.new g h with h2 | h2
  · exact .inl (E.sub g (hl hb g h2))
  · exact .inr ⟨E1.sub g h, h2⟩
theorem sound_of_pure {P : Program} {G : Globs} {f : FuncId} {ps : List Pass} {ms fs : List Nat} {nb : Nat} {spec : List AV → List Blk → Option (Prop × Ret)} (hnb : nb ≤ 16) (h : PureAt P G f fs.length spec) : SoundAt P G f (callD ps ms fs nb spec) := by
  intro E σ M w args Vs nm A C v M' hP hG hM hargs hn hA hrun hC
  unfold callD at hA
  cases hck : renOk (downN fs) big && renOk (upN fs nm nb) big && ms.all (fun b => !fs.any (Nat.beq b))
  · simp [hck] at hA
  simp only [hck, cond_true, Option.some.injEq] at hA
  subst hA
  simp only [Bool.and_eq_true] at hck
  obtain ⟨⟨hns, hup⟩, hdis⟩ := hck
  have hd : ∀ b ∈ ms, b ∉ fs := by
    intro b hb hf
    rw [List.all_eq_true] at hdis
    have h1 := hdis b hb
    have h2 : fs.any (Nat.beq b) = true := List.any_eq_true.2 ⟨b, hf, beqT b⟩
    rw [h2] at h1
    cases h1
  unfold Deed.run at hrun
  simp only at hrun
  split at hrun
  · cases hrun
  rename_i ks hks
  obtain ⟨hl, hfs⟩ := lookAll_append hks
  split at hrun
  · cases hrun
  rename_i C1 v1 cs hgo
  split at hrun
  · cases hrun
  rename_i M1 hput
  simp only [Option.some.injEq, Prod.mk.injEq] at hrun
  obtain ⟨rfl, rfl, rfl⟩ := hrun
  split at hgo
  rotate_left
  · cases hgo
  rename_i C2 vs ks' hlend hdown
  split at hgo
  rotate_left
  · cases hgo
  rename_i C3 r hspec
  split at hgo
  rotate_left
  · cases hgo
  rename_i v2 bs hv2 hbs
  cases hpl : Nat.beq r.bs.length (fs.length + nb) && (ms.isEmpty || r.plain)
  · simp [hpl] at hgo
  simp only [hpl, cond_true, Option.some.injEq, Prod.mk.injEq] at hgo
  obtain ⟨rfl, rfl, rfl⟩ := hgo
  simp only [Bool.and_eq_true] at hpl
  obtain ⟨hlen, hpl⟩ := hpl
  have hlen := Nat.eq_of_beq_eq_true hlen
  have hplain : (!ms.isEmpty) = true → r.plain = true := by
    intro q
    rw [Bool.or_eq_true] at hpl
    rcases hpl with h1 | h1
    · rw [h1] at q; cases q
    · exact h1
  have hlent : ms ≠ [] → (!ms.isEmpty) = true := by
    intro q
    cases ms with
    | nil => exact absurd rfl q
    | cons _ _ => rfl
  have hg0 : Grow E (callE E σ w fs (!ms.isEmpty) (sigOf σ (downN fs))) := grow0 hM hfs
  have hargs0 := lend_R hM hfs hl hd hlent hns hlend hC.1 hargs
  have hM0 := handed (lent := !ms.isEmpty) hM hfs hns hdown
  have hkl : ks'.length = fs.length := by
    rw [(downB_at hdown).1]
    exact ((lookAll_at hfs).1).symm
  have hkp : ∀ j, fs.length ≤ j → sigOf σ (downN fs) j = .unset := by
    intro j hj
    unfold sigOf
    split
    · rename_i b hb
      have hmem := look_mem hb
      unfold turned at hmem
      obtain ⟨p, hp, he⟩ := List.mem_map.1 hmem
      simp only [Prod.mk.injEq] at he
      obtain ⟨rfl, rfl⟩ := he
      obtain ⟨i, hi⟩ := List.mem_iff_getElem?.1 hp
      unfold downN at hi
      rw [List.getElem?_zip_eq_some] at hi
      have h3 := (List.getElem?_eq_some_iff.1 hi.2).1
      simp only [List.length_range] at h3
      have h4 := hi.2
      rw [List.getElem?_range h3] at h4
      injection h4 with h4
      omega
    · rfl
  generalize hE0 : callE E σ w fs (!ms.isEmpty) (sigOf σ (downN fs)) = E0 at *
  have hE0kp : E0.kp = sigOf σ (downN fs) := by rw [← hE0]; rfl
  have hE0fz : ∀ g, E0.fz g ↔ (g < w.heap.size ∧ ¬ inFeet σ fs g) := by intro g; rw [← hE0]; exact Iff.rfl
  have hE0old : (!ms.isEmpty) = false → ∀ g, E0.old g → E.old g := by
    intro q g hg
    rw [← hE0] at hg
    rcases hg.1 with h1 | h1
    · exact h1
    · rw [q] at h1; cases h1.1
  have hE0w : E0.w0 = w := by rw [← hE0]; rfl
  refine (h E0 w vs ks' Vs C3 r (hg0.P.trans hP) (hG.grow hg0) hkl (fun j hj => by rw [hE0kp]; exact hkp j hj) (by rw [hE0kp]; exact hM0) (by rw [hE0kp]; exact hargs0) hspec hC.2).mono ?_
  rintro V w' ⟨E1, σ', hg1, hk, r1, r2⟩
  rw [hE0kp] at hk
  have gr := back_grow (lent := !ms.isEmpty) hg0 hg1 hE0old
  have bo := back_old (lent := !ms.isEmpty) hg0 hg1 hE0old
  generalize hup' : upN fs nm nb = up at *
  have upm : ∀ {j c : Nat}, (j, c) ∈ up ↔ (fs ++ (List.range nb).map (nm + ·))[j]? = some c := by
    intro j c
    rw [← hup']
    exact upN_mem
  have sg1 : ∀ {j c : Nat}, (j, c) ∈ up → sigOf σ' up c = σ' j := fun hm => sigOf_at hup (renOk_mem hup hm).2.2
  have sg0 : ∀ c, (∀ j, (j, c) ∉ up) → sigOf σ' up c = .unset := by
    intro c hc
    unfold sigOf
    split
    · rename_i b hb
      have hmem := look_mem hb
      unfold turned at hmem
      obtain ⟨p, hp, he⟩ := List.mem_map.1 hmem
      simp only [Prod.mk.injEq] at he
      obtain ⟨rfl, rfl⟩ := he
      exact absurd hp (hc p.1)
    · rfl
  have feet_sig : ∀ {j c : Nat}, fs[j]? = some c → σ' j = σ c ∨ σ' j = .unset := by
    intro j c hc
    have hj := (List.getElem?_eq_some_iff.1 hc).1
    rcases hk j hj with h1 | h1
    · refine .inl ?_
      rw [h1]
      exact sigOf_at hns (renOk_mem hns (downN_mem hc)).2.2
    · exact .inr h1
  have same : ∀ c, ¬ (nm ≤ c ∧ c < nm + 16) → sigUp σ σ' up c = σ c := by
    intro c hc
    unfold sigUp
    by_cases he : ∃ j, (j, c) ∈ up
    · obtain ⟨j, hj⟩ := he
      rw [sg1 hj]
      rcases up_cases (upm.1 hj) with ⟨q1, q2⟩ | ⟨q1, q2, q3⟩
      · rcases feet_sig q2 with h1 | h1
        · rw [h1]
          cases σ c <;> rfl
        · rw [h1]
      · omega
    · rw [sg0 c fun j hj => he ⟨j, hj⟩]
  have hx : Ext σ (sigUp σ σ' up) := by
    intro c hc
    by_cases hr : nm ≤ c ∧ c < nm + 16
    · exact absurd (hn c hr.1 hr.2) hc
    · exact same c hr
  have hx' : Ext (sigOf σ' up) (sigUp σ σ' up) := by
    intro c hc
    unfold sigUp
    cases hs : sigOf σ' up c with
    | unset => exact absurd hs hc
    | nil => rfl
    | «at» L => rfl
  have rp : (!ms.isEmpty) = true → r.v.plain = true ∧ r.bs.all OBlk.plain = true := by
    intro q
    have := hplain q
    unfold Ret.plain at this
    rw [Bool.and_eq_true] at this
    exact this
  refine ⟨backE E E0 E1 (!ms.isEmpty), sigUp σ σ' up, gr, hx, same, ?_, ?_⟩
  · exact (AV.ren_R hup hv2 (AV.env bo rfl (fun q => (rp q).1) r1)).ext hx'
  have hcase : ∀ c k, look c M1 = some k → (∃ j k0, (j, c) ∈ up ∧ look j (zipO 0 r.bs) = some k0 ∧ r.bs[j]? = some (some k0) ∧ k0.ren up = some k) ∨ (c ∉ fs ∧ look c M = some k) := by
    intro c k hck
    rcases putAll_at hck hput with ⟨i, h1, h2⟩ | ⟨h1, h2⟩
    · obtain ⟨k0, h3, h4⟩ := (upB_at hbs).2 i k h2
      refine .inl ⟨i, k0, upm.2 h1, ?_, h3, h4⟩
      have := zipO_get (i := 0) h3
      simpa using this
    · exact .inr ⟨fun hf => h1 (List.mem_append_left _ hf), h2⟩
  have hzz : ∀ g, ¬ E1.fz g → ¬ (backE E E0 E1 (!ms.isEmpty)).fz g := by
    intro g h1 h2
    rcases h2 with h2 | h2
    · exact h1 (hg1.fz g (hg0.fz g h2))
    · exact h1 h2.1
  have other : ∀ c k, c ∉ fs → look c M = some k → ∀ L, σ c = .at L → E0.fz L.g := by
    intro c k hcf hc L hL
    have hB := hM.blk c k hc
    rw [hL] at hB
    obtain ⟨_, arr, elem, lo, hi, q1, _⟩ := hB
    refine (hE0fz _).2 ⟨heap_lt q1, ?_⟩
    rintro ⟨b, hb, L', hL', he⟩
    obtain ⟨kb, hkb⟩ := feet_at hfs hb
    have := hM.inj b c kb k L' L hkb hc hL' hL he
    subst this
    exact hcf hb
  have heap' : ∀ g, E0.fz g → w'.heap[g]? = w.heap[g]? := by
    intro g hg
    rw [r2.old g (hg1.fz g hg), hg1.w0 g hg, hE0w]
  have notnew : ∀ c k, c ∉ fs → look c M = some k → (∀ j, (j, c) ∉ up) ∨ σ c = .unset := by
    intro c k hcf hc
    by_cases he : ∃ j, (j, c) ∈ up
    · obtain ⟨j, hj⟩ := he
      rcases up_cases (upm.1 hj) with ⟨q1, q2⟩ | ⟨q1, q2, q3⟩
      · exact absurd (List.mem_of_getElem? q2) hcf
      · exact .inr (hn c (by omega) (by omega))
    · exact .inl fun j hj => he ⟨j, hj⟩
  refine { blk := ?_, inj := ?_, old := ?_, size := ?_, olds := ?_, os := ?_, tape := ?_, output := ?_ }
  · intro c k hck
    rcases hcase c k hck with ⟨j, k0, h1, h2, h3, h4⟩ | ⟨h1, h2⟩
    · have hB := r2.blk j k0 h2
      have hp : (!ms.isEmpty) = true → k0.plain = true := by
        intro q
        have := (rp q).2
        rw [List.all_eq_true] at this
        exact this _ (List.mem_of_getElem? h3)
      have hB2 := Blk.ren_R hup h4 (Blk.env bo rfl hzz hp hB)
      have hne : σ' j ≠ .unset := by intro e; rw [e] at hB; exact hB
      have e1 : sigUp σ σ' up c = σ' j := by
        rw [hx' c (by rw [sg1 h1]; exact hne), sg1 h1]
      rw [e1]
      exact hB2.ext hx'
    · have hB := hM.blk c k h2
      have hne : σ c ≠ .unset := by intro e; rw [e] at hB; exact hB
      rw [hx c hne]
      refine BlkR.ext hx (BlkR.same (w := w) (fun L hL => heap' _ (other c k h1 h2 L hL)) (Blk.grow gr (fun L hL hz => ?_) hB))
      have ho := other c k h1 h2 L hL
      rcases hz with hz | hz
      · rw [hL] at hB
        obtain ⟨_, arr, elem, lo, hi, _, _, _, q4, _⟩ := hB
        exact q4 hz
      · exact hz.2 ho
  · intro b c x y L L' hb hc hL hL' hg
    have newL : ∀ c k, (∃ j k0, (j, c) ∈ up ∧ look j (zipO 0 r.bs) = some k0 ∧ r.bs[j]? = some (some k0) ∧ k0.ren up = some k) → ∀ L, sigUp σ σ' up c = .at L → ∃ j k0, (j, c) ∈ up ∧ look j (zipO 0 r.bs) = some k0 ∧ σ' j = .at L ∧ ¬ E1.fz L.g := by
      rintro c k ⟨j, k0, h1, h2, h3, h4⟩ L hL
      have hB := r2.blk j k0 h2
      have hne : σ' j ≠ .unset := by intro e; rw [e] at hB; exact hB
      have e1 : sigUp σ σ' up c = σ' j := by
        rw [hx' c (by rw [sg1 h1]; exact hne), sg1 h1]
      rw [e1] at hL
      rw [hL] at hB
      obtain ⟨_, arr, elem, lo, hi, _, _, _, q4, _⟩ := hB
      exact ⟨j, k0, h1, h2, hL, q4⟩
    have oldL : ∀ c k, c ∉ fs → look c M = some k → ∀ L, sigUp σ σ' up c = .at L → σ c = .at L ∧ E1.fz L.g := by
      intro c k h1 h2 L hL
      have hB := hM.blk c k h2
      have hne : σ c ≠ .unset := by intro e; rw [e] at hB; exact hB
      rw [hx c hne] at hL
      exact ⟨hL, hg1.fz _ (other c k h1 h2 L hL)⟩
    rcases hcase b x hb with h1 | ⟨h1, h2⟩
    · obtain ⟨j, k0, p1, p2, p3, p4⟩ := newL b x h1 L hL
      rcases hcase c y hc with h3 | ⟨h3, h4⟩
      · obtain ⟨i, k1, q1, q2, q3, q4⟩ := newL c y h3 L' hL'
        have := r2.inj j i k0 k1 L L' p2 q2 p3 q3 hg
        subst this
        have e1 := (renOk_mem hup p1).2.2
        have e2 := (renOk_mem hup q1).2.2
        rw [e1] at e2
        injection e2
      · obtain ⟨q1, q2⟩ := oldL c y h3 h4 L' hL'
        exact absurd (hg ▸ q2) p4
    · obtain ⟨p1, p2⟩ := oldL b x h1 h2 L hL
      rcases hcase c y hc with h3 | ⟨h3, h4⟩
      · obtain ⟨i, k1, q1, q2, q3, q4⟩ := newL c y h3 L' hL'
        exact absurd (hg ▸ p2) q4
      · obtain ⟨q1, q2⟩ := oldL c y h3 h4 L' hL'
        exact hM.inj b c x y L L' h2 h4 p1 q1 hg
  · intro g hg
    rcases hg with hg | hg
    · exact r2.old g (hg1.fz g (hg0.fz g hg))
    · exact r2.old g hg.1
  · exact r2.size
  · intro g hg
    rcases hg with hg | hg
    · exact r2.olds g (hg1.fz g (hg0.fz g hg))
    · exact r2.olds g hg.1
  · exact r2.os
  · exact r2.tape
  · exact r2.output
end
end
end Go.Vm
set_option linter.unusedVariables false
set_option linter.unusedSimpArgs false
namespace Go.Vm
open Go
structure Sig1 where
  m : Nat
  nb : Nat
  spec : List AV → List Blk → Option (Prop × Ret)
structure Known (P : Program) (G : Globs) (f : FuncId) (z : Sig1) : Prop where
  nb : z.nb ≤ 16
  pure : PureAt P G f z.m z.spec
abbrev TT : Prop := True ∧ True
theorem tt : TT := ⟨trivial, trivial⟩
theorem lookAll_same {M N : Mem} (h : ∀ b, look b N = look b M) : ∀ l : List Nat, lookAll N l = lookAll M l
  | [] => rfl
  | b :: r => by rw [lookAll, lookAll, h b, lookAll_same h r]
theorem putAll_same : ∀ (ws : List Nat) (cs : List (Option Blk)) {M N M' : Mem}, (∀ b, look b N = look b M) → putAll ws cs M = some M' → ∃ N', putAll ws cs N = some N' ∧ ∀ b, look b N' = look b M'
  | [], [], M, N, M', h, hp => by
    simp only [putAll, Option.some.injEq] at hp
    subst hp
    exact ⟨N, rfl, h⟩
  | b :: ws, c :: cs, M, N, M', h, hp => by
    rw [putAll] at hp ⊢
    refine putAll_same ws cs (M := put0 b c M) (fun d => ?_) hp
    cases c with
    | none => show look d (drop1 b N) = look d (drop1 b M); rw [look_drop1, look_drop1, h d]
    | some k => show look d (put1 b k N) = look d (put1 b k M); rw [look_put1, look_put1, h d]
  | [], _ :: _, _, _, _, _, hp => by simp [putAll] at hp
  | _ :: _, [], _, _, _, _, hp => by simp [putAll] at hp
theorem putAll_kept (ns : List Nat) (cs : List (Option Blk)) : ∀ {ws : List Nat} {ks : List Blk} {M : Mem}, lookAll M ws = some ks → ∃ N, (∀ b, look b N = look b M) ∧ putAll (ws ++ ns) (ks.map some ++ cs) M = putAll ns cs N
  | [], ks, M, h => by
    simp only [lookAll, Option.some.injEq] at h
    subst h
    exact ⟨M, fun _ => rfl, rfl⟩
  | b :: ws, ks, M, h => by
    rw [lookAll] at h
    split at h
    · cases h
    rename_i k hk
    split at h
    · cases h
    rename_i ks' hks
    simp only [Option.some.injEq] at h
    subst h
    have same : ∀ d, look d (put1 b k M) = look d M := fun d => by
      rw [look_put1]
      split
      · rename_i e; rw [e, hk]
      · rfl
    obtain ⟨N, h1, h2⟩ := putAll_kept ns cs (ws := ws) (ks := ks') (M := put1 b k M) (by rw [lookAll_same same, hks])
    exact ⟨N, fun d => (h1 d).trans (same d), h2⟩
def callS (ps : List Pass) (ms fs : List Nat) (nb : Nat) (spec : List AV → List Blk → Option (Prop × Ret)) (args : List AV) (nm : Nat) : Option Deed :=
  match callD ps ms fs nb spec args nm with
  | none => none
  | some A => some { rd := A.rd, wr := (List.range nb).map (nm + ·), go := fun ks => match A.go ks with
    | some (C, v, bs) => some (C ∧ bs.take fs.length = (ks.drop ms.length).map some, v, bs.drop fs.length)
    | none => none }
theorem sound_seen {P : Program} {G : Globs} {f : FuncId} {ps : List Pass} {ms fs : List Nat} {nb : Nat} {spec : List AV → List Blk → Option (Prop × Ret)} (h : SoundAt P G f (callD ps ms fs nb spec)) : SoundAt P G f (callS ps ms fs nb spec) := by
  intro E σ M w args Vs nm A C v M' hP hG hM hargs hn hA hrun hC
  unfold callS at hA
  split at hA
  · cases hA
  rename_i A0 hA0
  simp only [Option.some.injEq] at hA
  subst hA
  unfold Deed.run at hrun
  simp only at hrun
  split at hrun
  · cases hrun
  rename_i ks hks
  split at hrun
  · cases hrun
  rename_i C1 v1 cs hgo
  split at hrun
  · cases hrun
  rename_i M1 hput
  simp only [Option.some.injEq, Prod.mk.injEq] at hrun
  obtain ⟨rfl, rfl, rfl⟩ := hrun
  split at hgo
  rotate_left
  · cases hgo
  rename_i C0 v0 bs hgo0
  simp only [Option.some.injEq, Prod.mk.injEq] at hgo
  obtain ⟨rfl, rfl, rfl⟩ := hgo
  have hw : A0.rd = ms ++ fs ∧ A0.wr = fs ++ (List.range nb).map (nm + ·) := by
    unfold callD at hA0
    cases hck : renOk (downN fs) big && renOk (upN fs nm nb) big && ms.all (fun b => !fs.any (Nat.beq b))
    · simp [hck] at hA0
    simp only [hck, cond_true, Option.some.injEq] at hA0
    subst hA0
    exact ⟨rfl, rfl⟩
  have hks' := hks
  rw [hw.1] at hks'
  obtain ⟨_, hfs⟩ := lookAll_append hks'
  have hb : bs = (ks.drop ms.length).map some ++ bs.drop fs.length := by rw [← hC.2, List.take_append_drop]
  obtain ⟨N, hN, e⟩ := putAll_kept ((List.range nb).map (nm + ·)) (bs.drop fs.length) hfs
  obtain ⟨N', hN', hl⟩ := putAll_same _ _ hN hput
  have run : A0.run M = some (C0, v0, N') := by
    unfold Deed.run
    rw [hks]
    simp only
    rw [hgo0]
    simp only
    rw [hw.2, hb, e, hN']
  refine (h E σ M w args Vs nm A0 C0 v0 N' hP hG hM hargs hn hA0 run hC.1).mono ?_
  rintro V w' ⟨E', σ', q1, q2, q3, q4, q5⟩
  exact ⟨E', σ', q1, q2, q3, q4, q5.less fun b k hb => by rw [hl b]; exact hb⟩
structure Site where
  f : FuncId
  nm : Nat
  ps : List Pass
  ms : List Nat
  fs : List Nat
  z : Sig1
  see : Bool
abbrev Lib := List Site
def tabOf : Lib → Tab
  | [], _, _, _ => none
  | x :: r, f, args, nm => bif Nat.beq x.f f && Nat.beq x.nm nm then (bif Nat.beq x.fs.length x.z.m then (bif x.see then callS x.ps x.ms x.fs x.z.nb x.z.spec args nm else callD x.ps x.ms x.fs x.z.nb x.z.spec args nm) else none) else tabOf r f args nm
def allKnown (P : Program) (G : Globs) : Lib → Prop
  | [] => True
  | x :: r => Known P G x.f x.z ∧ allKnown P G r
theorem tabOk {P : Program} {G : Globs} : ∀ {l : Lib}, allKnown P G l → TabOk P G (tabOf l)
  | [], _, f, args, nm, A, hA => by simp [tabOf] at hA
  | x :: r, h, f, args, nm, A, hA => by
    unfold tabOf at hA
    cases hb : Nat.beq x.f f && Nat.beq x.nm nm
    · rw [hb] at hA
      exact tabOk h.2 f args nm A hA
    · rw [hb, cond_true] at hA
      cases hm : Nat.beq x.fs.length x.z.m
      · rw [hm] at hA; cases hA
      · rw [hm, cond_true] at hA
        rw [Bool.and_eq_true] at hb
        have e1 := Nat.eq_of_beq_eq_true hb.1
        have e2 := Nat.eq_of_beq_eq_true hm
        subst e1
        have h0 : SoundAt P G x.f (callD x.ps x.ms x.fs x.z.nb x.z.spec) := sound_of_pure h.1.nb (e2 ▸ h.1.pure)
        cases hs : x.see
        · rw [hs, cond_false] at hA
          exact ⟨_, h0, hA⟩
        · rw [hs, cond_true] at hA
          exact ⟨_, sound_seen h0, hA⟩
def noG : Globs := fun _ => none
variable {B : Bs} {E : Env} {U : Nat} {s : St} {Q : Post}
theorem Tri.seq_region {id : Nat} {ops : Array Oper} {draw : Bool} {d : Code} (hints : List (Nat × AV)) (ms : Option (List Nat)) (kf km : List Nat) (C : Prop) (s' : St) (U' : Nat) (h : runK B hints U ops ms kf km s = some (C, s')) (hd : ms.isSome = draw)
    (hU : Nat.ble (U + 16 * ops.size) U' = true) (hC : C) (hq : Tri B E d U' s' Q) : Tri B E (.seq (.region id ops draw) d) U s Q :=
  Tri.seq (Tri.region (Q := thenP B E d Q) h hd hU hC hq)
theorem Tri.region' {id : Nat} {ops : Array Oper} {draw : Bool} (hints : List (Nat × AV)) (ms : Option (List Nat)) (kf km : List Nat) (C : Prop) (s' : St) (U' : Nat) (h : runK B hints U ops ms kf km s = some (C, s')) (hd : ms.isSome = draw)
    (hU : Nat.ble (U + 16 * ops.size) U' = true) (hC : C) (hq : Q .normal U' s') : Tri B E (.region id ops draw) U s Q :=
  Tri.region h hd hU hC hq
theorem sr {id : Nat} {ops : Array Oper} {draw : Bool} {d : Code} (hints : List (Nat × AV)) (ms : Option (List Nat)) (kf km : List Nat) (C : Prop) (s' : St) (U' : Nat) (hC : C) (hq : Tri B E d U' s' Q)
    (h : runK B hints U ops ms kf km s = some (C, s') := by kernel_rfl) (hd : ms.isSome = draw := by rfl) (hU : Nat.ble (U + 16 * ops.size) U' = true := by kernel_rfl) : Tri B E (.seq (.region id ops draw) d) U s Q :=
  Tri.seq_region hints ms kf km C s' U' h hd hU hC hq
theorem rr {id : Nat} {ops : Array Oper} {draw : Bool} (hints : List (Nat × AV)) (ms : Option (List Nat)) (kf km : List Nat) (C : Prop) (s' : St) (U' : Nat) (hC : C) (hq : Q .normal U' s')
    (h : runK B hints U ops ms kf km s = some (C, s') := by kernel_rfl) (hd : ms.isSome = draw := by rfl) (hU : Nat.ble (U + 16 * ops.size) U' = true := by kernel_rfl) : Tri B E (.region id ops draw) U s Q :=
  Tri.region' hints ms kf km C s' U' h hd hU hC hq
abbrev qp (b o : Nat) : AV := .sc (.p b o)
abbrev qb (x : Bool) : AV := .sc (.b x)
abbrev qi (x : Int) : AV := .sc (.i .i64 x)
abbrev qr (xs : List Int) : AV := .sc (.ro .u8 xs)
def countP (U0 n k : Nat) (st' : St) (J' : Prop) (Q : Post) : Post
  | .normal, U, s => k < n ∧ J' ∧ Sub U s U0 st'
  | e, U, s => Q e U s
theorem Tri.count {α : Type} {c : Code} (U0 : Nat) (n : Nat) (f : Nat → α → α) (x0 : α) (J : Nat → α → Prop) (st : Nat → α → St) (hJ : J 0 x0) (h0 : Sub U s U0 (st 0 x0))
    (round : ∀ k x, k ≤ n → x = itr f k x0 → J k x → Tri B E c U0 (st k x) (countP U0 n k (st (k + 1) (f k x)) (J (k + 1) (f k x)) Q)) : Tri B E (.loop c) U s Q := by
  refine Tri.loop (U0 := U0) (fun k => n - k) (fun k => k ≤ n ∧ J k (itr f k x0)) (fun k => st k (itr f k x0)) 0 ⟨Nat.zero_le _, by show J 0 (itr f 0 x0); rw [itr_zero]; exact hJ⟩ (by show Sub U s U0 (st 0 (itr f 0 x0)); rw [itr_zero]; exact h0) ?_
  rintro k ⟨h1, h2⟩
  refine (round k _ h1 rfl h2).mono ?_
  intro e U' s' hq
  cases e with
  | normal =>
    obtain ⟨q1, q2, q3⟩ := hq
    exact ⟨k + 1, (by show n - (k + 1) < n - k; omega), ⟨by omega, by show J (k + 1) (itr f (k + 1) x0); rw [itr_succ]; exact q2⟩, by show Sub _ _ U0 (st (k + 1) (itr f (k + 1) x0)); rw [itr_succ]; exact q3⟩
  | exit id => exact hq
  | goto l => exact hq
  | ret => exact hq
  | panic ch => exact hq
  | outgrown => exact hq
theorem blkP_normal {id : Nat} (h : Q .normal U s) : blkP id Q .normal U s := h
theorem thenP_ret {c : Code} (h : Q .ret U s) : thenP B E c Q .ret U s := h
theorem blkP_ret {id : Nat} (h : Q .ret U s) : blkP id Q .ret U s := h
theorem countP_ret {U0 n k : Nat} {st' : St} {J' : Prop} (h : Q .ret U s) : countP U0 n k st' J' Q .ret U s := h
theorem joinP_ret {Um : Nat} {m : St} (h : Q .ret U s) : joinP Um m Q .ret U s := h
theorem Sub.freeze {fr : Fr} {M : Mem} {U : Nat} (t b off len n : Nat) (cap : Option Nat) (k : IntKind) (xs : List Int) (ht : look t fr = some (.sc (.sl b off len 1 cap))) (hM : look b M = some (.ints k n xs)) (hle : off + len ≤ n) :
    Sub U (fr, M) U (put1 t (.sc (.ro k (part1 xs n off len))) fr, drop1 b M) := by
  rintro E n' a w ⟨E1, hg, σ, h1, h2, h3, h4⟩
  have hB := h1.blk b _ hM
  have hgood : xs.length = n := blk_good h1.toMemR hM
  have hlen : ((xs.drop off).take len).length = len := by simp; omega
  have less : ∀ c k', look c (drop1 b M) = some k' → c ≠ b ∧ look c M = some k' := by
    intro c k' hc
    rw [look_drop1] at hc
    split at hc
    · cases hc
    · rename_i e; exact ⟨e, hc⟩
  cases hL : σ b with
  | unset => rw [hL] at hB; exact hB.elim
  | nil =>
    rw [hL] at hB
    have hn : n = 0 := hB.1
    refine ⟨E1, hg, σ, ?_, h2, h3, h4⟩
    refine { val := fun t' v hv => ?_, defers := h1.defers, tmps := h1.tmps, toMemR := MemR.less h1.toMemR fun c k' hc => (less c k' hc).2 }
    simp only [look_put1] at hv
    split at hv
    · rename_i e
      subst e
      injection hv with hv
      subst hv
      obtain ⟨V, q1, q2⟩ := h1.val _ _ ht
      refine ⟨V, q1, ?_⟩
      show RoR E1 k (part1 xs n off len) V
      rw [part1_eq hgood]
      rcases q2 with ⟨e1, _, A, rfl⟩ | ⟨L, c, e1, _⟩
      · subst e1
        exact ⟨A, 0, by simp, by simp, by simp⟩
      · rw [hL] at e1; cases e1
    · exact h1.val _ _ hv
  | «at» L =>
    rw [hL] at hB
    obtain ⟨g1, arr, elem, lo, hi, p1, p2, p3, p4, p5, p6⟩ := hB
    have hinj : ∀ c k' L', c ≠ b → look c M = some k' → σ c = .at L' → L'.g ≠ L.g := fun c k' L' hne hc hL' he => hne (h1.inj c b k' _ L' L hc hM hL' hL he)
    let E2 : Env := { P := E1.P, w0 := w, old := fun g => E1.old g ∨ g = L.g, fz := fun g => E1.fz g ∨ g = L.g, sub := fun g h => h.elim (fun h => .inl (E1.sub g h)) .inr, kp := E1.kp }
    have gr : Grow E1 E2 :=
      { P := rfl, old := fun g h => .inl h, fz := fun g h => .inl h, w0 := fun g h => h1.old g h
        new := fun g h => by
          rcases h with h | h
          · exact .inl h
          · subst h; exact .inr p4
        size := h1.size, os := h1.os, tape := h1.tape, output := h1.output }
    refine ⟨E2, hg.trans gr, σ, ?_, h2, h3, h4⟩
    refine { val := fun t' v hv => ?_, defers := h1.defers, tmps := h1.tmps, blk := fun c k' hc => ?_, inj := fun c d x y L1 L2 hc hd => h1.inj c d x y L1 L2 (less c x hc).2 (less d y hd).2, old := fun _ _ => rfl, size := Nat.le_refl _, olds := fun g hg => ?_, os := rfl, tape := rfl, output := rfl }
    · simp only [look_put1] at hv
      split at hv
      · rename_i e
        subst e
        injection hv with hv
        subst hv
        obtain ⟨V, q1, q2⟩ := h1.val _ _ ht
        refine ⟨V, q1, ?_⟩
        show RoR E2 k (part1 xs n off len) V
        rw [part1_eq hgood]
        rcases q2 with ⟨e1, _, A, rfl⟩ | ⟨L', c, e1, rfl, e2, e3, e4⟩
        · subst e1
          exact ⟨A, 0, by simp, by simp, by simp⟩
        · rw [hL] at e1
          injection e1 with e1
          subst e1
          refine ⟨some ⟨L.g, L.β + off, none⟩, c, by rw [hlen], by rw [hlen]; exact e2, fun _ => ⟨_, rfl, .inr rfl, fun j hj => ?_⟩⟩
          rw [hlen] at hj
          have hget : xs[off + j]? = some (xs.getD (off + j) 0) := by
            rw [List.getD_eq_getElem?_getD, List.getElem?_eq_getElem (by omega)]; rfl
          obtain ⟨v, e5, e6⟩ := p6 (off + j) (.i k (xs.getD (off + j) 0)) (by show (xs[off + j]?).map _ = _; rw [hget]; rfl)
          simp only [ScR] at e6
          subst e6
          have : ((xs.drop off).take len).getD j 0 = xs.getD (off + j) 0 := by
            simp [List.getD_eq_getElem?_getD, List.getElem?_take, List.getElem?_drop, hj]
          rw [this, addr_add]
          show w.cell? _ = _
          have hlt : L.β + off + j < L.sz := by have := p3; simp only [Blk.len] at this; omega
          have := p5.1 (L.β + off + j) hlt
          simp [World.cell?, p1, this]
          rw [Nat.add_assoc]
          exact e5
      · obtain ⟨V, q1, q2⟩ := h1.val _ _ hv
        exact ⟨V, q1, q2.grow gr⟩
    · obtain ⟨hne, hc'⟩ := less c k' hc
      refine Blk.grow gr (fun l hl hz => ?_) (h1.blk c k' hc')
      rcases hz with hz | hz
      · have hB' := h1.blk c k' hc'
        rw [hl] at hB'
        obtain ⟨_, _, _, _, _, _, _, _, q4, _⟩ := hB'
        exact q4 hz
      · exact hinj c k' l hne hc' hl hz
    · rcases hg with hg | hg
      · exact Nat.lt_of_lt_of_le (h1.olds g hg) h1.size
      · subst hg; exact heap_lt p1
theorem countP_normal {U0 n k : Nat} {st' : St} {J' : Prop} (h1 : k < n) (h2 : J') (h3 : Sub U s U0 st') : countP U0 n k st' J' Q .normal U s := ⟨h1, h2, h3⟩
theorem Tri.split {c : Code} (x : Bool) (ht : x = true → Tri B E c U s Q) (hf : x = false → Tri B E c U s Q) : Tri B E c U s Q := by
  cases x
  · exact hf rfl
  · exact ht rfl
theorem endP.ret {P : Program} {rs : List ResultVar} {m : Nat} {r : Ret} (ns : Ren) (C : Prop) (h1 : (renOk ns r.bs.length && ren16 ns m) = true) (h3 : finish P rs ns r.bs.length s = some (C, r)) (h4 : C) : endP P rs m r .ret U s := ⟨ns, C, h1, h3, h4⟩
theorem endP.conv {P : Program} {rs : List ResultVar} {m : Nat} {r r' : Ret} (h : r = r') (h2 : endP P rs m r' .ret U s) : endP P rs m r .ret U s := h ▸ h2
theorem Known.walk {f : FuncId} {fn : Func} {c : Code} {z : Sig1} (hok : B.Ok) (hf : B.P.funcs[f]? = some fn) (hb : fn.body = some c) (hn : (fn.name != "runtime.NumGoroutine") = true) (hnt : fn.ntmps = B.n) (hnb : z.nb ≤ 16) (hm : z.m ≤ 16)
    (h : ∀ (E : Env) (args : List AV) (ks : List Blk) (C : Prop) (r : Ret), z.spec args ks = some (C, r) → C → lens args → args.length ≤ B.n ∧ Tri B E c 16 ((List.range args.length).zip args, zipN 0 ks) (endP B.P fn.results.toList z.m r)) : Known B.P B.G f z :=
  ⟨hnb, PureAt.of_walk hok hf hb hn hnt hm h⟩
theorem Known.same {P : Program} {G : Globs} {f : FuncId} {z z' : Sig1} (h : Known P G f z) (hnb : z'.nb ≤ 16) (hm : z'.m = z.m) (hs : ∀ vs ks C r, z'.spec vs ks = some (C, r) → C → ∃ C', z.spec vs ks = some (C', r) ∧ C') : Known P G f z' :=
  ⟨hnb, fun E w args ks Vs C r h1 h2 h3 h4 h5 h6 h7 h8 => by
    obtain ⟨C', h9, h10⟩ := hs args ks C r h7 h8
    have := h.pure E w args ks Vs C' r h1 h2 (h3.trans hm) (fun j hj => h4 j (by omega)) h5 h6 h9 h10
    rw [hm]
    exact this⟩
def orS (s1 s2 : List AV → List Blk → Option (Prop × Ret)) : List AV → List Blk → Option (Prop × Ret) := fun a b => match s1 a b with
  | some x => some x
  | none => s2 a b
theorem Known.or {P : Program} {G : Globs} {f : FuncId} {m nb : Nat} {s1 s2 : List AV → List Blk → Option (Prop × Ret)} (h1 : Known P G f ⟨m, nb, s1⟩) (h2 : Known P G f ⟨m, nb, s2⟩) : Known P G f ⟨m, nb, orS s1 s2⟩ where
  nb := h1.nb
  pure := fun E w args ks Vs C r hP hG hk hkp hM ha h hC => by
    simp only [orS] at h
    split at h
    · rename_i x hx; cases h; exact h1.pure E w args ks Vs C r hP hG hk hkp hM ha hx hC
    · exact h2.pure E w args ks Vs C r hP hG hk hkp hM ha h hC
theorem eq_true_i {a b : Int} (h : (a == b) = true) : a = b := by simpa using h
theorem eq_false_i {a b : Int} (h : (a == b) = false) : a ≠ b := by simpa using h
theorem ne_true_i {a b : Int} (h : (a != b) = true) : a ≠ b := by simpa using h
theorem ne_false_i {a b : Int} (h : (a != b) = false) : a = b := by simpa using h
theorem wrap_small {x : Int} (h : -9223372036854775808 ≤ x) (h' : x < 9223372036854775808) : IntKind.wrap .i64 x = x := by
  unfold IntKind.wrap
  simp only [IntKind.signed, IntKind.bits, if_true, Bool.true_and]
  split <;> rename_i hc <;> simp at hc ⊢ <;> omega
theorem iAdd_nat {a b : Nat} (h : a + b < 9223372036854775808) : iAdd .i64 (a : Int) (b : Int) = ((a + b : Nat) : Int) := by
  unfold iAdd; rw [wrap_small (by omega) (by omega)]; omega
theorem Tri.len {B : Bs} {E : Env} {c : Code} {U : Nat} {s : St} {Q : Post} (b : Nat) {k : IntKind} {n : Nat} {xs : List Int} (h : look b s.2 = some (.ints k n xs)) (q : xs.length = n → Tri B E c U s Q) : Tri B E c U s Q := by
  intro hB a w g
  have g0 := g
  obtain ⟨E', hg', σ, h1, h2⟩ := g
  have hb := h1.toMemR.blk b _ h
  have hg : xs.length = n := by
    cases hs : σ b with
    | unset => rw [hs] at hb; cases hb
    | nil => rw [hs] at hb; exact hb.2
    | «at» L => rw [hs] at hb; exact hb.1
  exact q hg hB a w g0
theorem part1_le {xs : List Int} {n off len B : Nat} (h1 : len ≤ B) (h2 : xs.length ≤ B) : (part1 xs n off len).length ≤ B := by
  unfold part1
  cases Nat.beq len n && Nat.beq off 0
  · simp only [cond_false, List.length_take, List.length_drop]; omega
  · exact h2
theorem minI_nat (a b : Nat) : minI (a : Int) (b : Int) = ((min a b : Nat) : Int) := by unfold minI; split <;> omega
end Go.Vm
set_option linter.unusedVariables false
set_option linter.unusedSimpArgs false
namespace Go.Vm
open Go
theorem wrap_u64 (x : Int) : IntKind.wrap .u64 x = x % 18446744073709551616 := by
  simp [IntKind.wrap, IntKind.signed, IntKind.bits]
theorem wrap_u32 (x : Int) : IntKind.wrap .u32 x = x % 4294967296 := by
  simp [IntKind.wrap, IntKind.signed, IntKind.bits]
theorem wrap_u8 (x : Int) : IntKind.wrap .u8 x = x % 256 := by
  simp [IntKind.wrap, IntKind.signed, IntKind.bits]
theorem wrap64_nn (x : Int) : 0 ≤ IntKind.wrap .u64 x := by rw [wrap_u64]; omega
theorem iAnd_nn (x y : Int) : 0 ≤ iAnd .u64 x y := wrap64_nn _
theorem iSub_nn (x y : Int) : 0 ≤ iSub .u64 x y := wrap64_nn _
theorem iAdd_i64 {x y : Int} (h : -9223372036854775808 ≤ x + y) (h' : x + y < 9223372036854775808) : iAdd .i64 x y = x + y := wrap_small h h'
theorem iSub_i64 {x y : Int} (h : -9223372036854775808 ≤ x - y) (h' : x - y < 9223372036854775808) : iSub .i64 x y = x - y := wrap_small h h'
theorem iShr_at (k : IntKind) (x : Int) (n : Nat) (h : n ≤ k.bits) : iShr k x (n : Int) = x / 2 ^ n := by
  unfold iShr
  have : min ((n : Int)).toNat k.bits = n := by simp; omega
  rw [this]
  exact Int.fdiv_eq_ediv_of_nonneg _ (by exact Int.le_of_lt (Int.pow_pos (by omega)))
theorem iShl_at (k : IntKind) (x : Int) (n : Nat) (h : n ≤ k.bits) : iShl k x (n : Int) = k.wrap (x * 2 ^ n) := by
  unfold iShl
  have : min ((n : Int)).toNat k.bits = n := by simp; omega
  rw [this]
where
  pow_dvd {n m : Nat} (h : n ≤ m) : (2 : Int) ^ n ∣ 2 ^ m := ⟨2 ^ (m - n), by rw [← Int.pow_add]; congr 1; omega⟩
end Go.Vm
set_option linter.unusedVariables false
set_option linter.unusedSimpArgs false
namespace Go.Vm
open Go
def E0 (P : Program) (w : World) : Env := { P := P, w0 := w, old := fun g => g < w.heap.size, fz := fun g => g < w.heap.size, sub := fun _ h => h, kp := fun _ => .unset }
theorem cell_lt {w : World} {a : Addr} {v : Value} (h : w.cell? a = some v) : a.block < w.heap.size := by
  unfold World.cell? at h
  cases hb : w.heap[a.block]? with
  | none => simp [hb] at h
  | some o => exact (Array.getElem?_eq_some_iff.1 hb).1
theorem ro_row {P : Program} {σ : Sig} {k : IntKind} {w : World} {a : Option Addr} {len cap : Nat} {zs : List Int}
    (h : (a = none ∧ len = 0 ∧ cap = 0 ∧ zs = []) ∨ ∃ x, a = some x ∧ len ≤ cap ∧ cap ≤ maxLen ∧ zs.length = cap ∧ (∀ i, i < zs.length → w.cell? (x.add i) = some (.int k (zs.getD i 0))) ∧ ∀ n ∈ zs, (Lit.int k n).wf = true) :
    AVR (E0 P w) σ (.sc (.ro k (zs.take len))) (.slice a len cap) := by
  rcases h with ⟨rfl, rfl, rfl, rfl⟩ | ⟨x, rfl, h1, h2, h3, h4, _⟩
  · exact ⟨none, 0, rfl, by simp, by simp⟩
  · have hl : (zs.take len).length = len := by simp; omega
    refine ⟨some x, cap, by rw [hl], by rw [hl]; exact h1, fun hp => ⟨x, rfl, ?_, fun j hj => ?_⟩⟩
    · have := cell_lt (h4 0 (by omega))
      rw [add_block] at this
      exact this
    · rw [hl] at hj
      show w.cell? _ = _
      rw [h4 j (by omega)]
      simp [List.getD_eq_getElem?_getD, List.getElem?_take, hj]
theorem calls_true {P : Program} {f : FuncId} {z : Sig1} (h : Known P noG f z) (hf : entersB P f = true) (w : World) (args : List AV) (Vs : Array Value) (C : Prop) (b : Bool) (ha : All2 (AVR (E0 P w) fun _ => .unset) args Vs.toList)
    (hm : z.m = 0) (hs : z.spec args [] = some (C, ⟨.sc (.b b), []⟩)) (hC : C) (hb : b = true) : Calls P f Vs w fun e w' => e = .returned (.bool true) ∧ Go.RowKit.Below w.heap.size w w' := by
  have hM : MemR (E0 P w) (fun _ => .unset) [] w :=
    { blk := fun b k hb => by cases hb
      inj := fun b c x y L L' hb => by cases hb
      old := fun _ _ => rfl
      size := Nat.le_refl _
      olds := fun _ h => h
      os := rfl
      tape := rfl
      output := rfl }
  have hG : GlobsOk (E0 P w) noG := fun g k xs hg => by cases hg
  rcases h.pure (E0 P w) w args [] Vs C _ rfl hG hm.symm (fun _ _ => rfl) hM ha hs hC with ⟨_, h1⟩ | ⟨V, w', h1, _⟩
  · refine h1.mono fun e w' ⟨V, he, E', σ', hg, _, h2, h3⟩ => ?_
    have h4 : V = .bool b := h2
    subst h4 hb
    exact ⟨he, h3.os.trans hg.os, h3.tape.trans hg.tape, h3.output.trans hg.output, Nat.le_trans hg.size h3.size, fun k hk => (h3.old k (hg.fz k hk)).trans (hg.w0 k hk)⟩
  · rw [run_enters hf] at h1
    cases h1
end Go.Vm
set_option linter.unusedVariables false
set_option linter.unusedSimpArgs false
namespace Go.Vm
open Go
section
variable {H : Type} {enc : TypeId × Value → H} {P : Program} {w : World} {base : Nat} {spare : Nat → Bool} {held : Bool}
end
def RowI (k : IntKind) (w : World) (a : Option Addr) (len cap : Nat) (zs : List Int) : Prop :=
  (a = none ∧ len = 0 ∧ cap = 0 ∧ zs = []) ∨
  ∃ x, a = some x ∧ len ≤ cap ∧ cap ≤ maxLen ∧ zs.length = cap ∧ (∀ i, i < zs.length → w.cell? (x.add i) = some (.int k (zs.getD i 0))) ∧ ∀ n ∈ zs, (Lit.int k n).wf = true
theorem RowI.fits {k : IntKind} {w : World} {a : Option Addr} {len cap : Nat} {zs : List Int} (h : RowI k w a len cap zs) (n : Nat) : ∀ x ∈ zs.take n, k.min ≤ x ∧ x ≤ k.max := by
  intro x hx
  have hm := List.mem_of_mem_take hx
  rcases h with ⟨_, _, _, rfl⟩ | ⟨_, _, _, _, _, _, hw⟩
  · cases hm
  · exact (Lit.wf_int_iff _ _).1 (hw x hm)
def RowB (w : World) (a : Option Addr) (len cap : Nat) (zs : List (List Int)) : Prop :=
  (a = none ∧ len = 0 ∧ cap = 0 ∧ zs = []) ∨
  ∃ x, a = some x ∧ len ≤ cap ∧ cap ≤ maxLen ∧ zs.length = len ∧ ∀ i, i < len → ∃ a' l' c' z', w.cell? (x.add i) = some (.slice a' l' c') ∧ RowI .u8 w a' l' c' z' ∧ zs.getD i [] = z'.take l'
theorem RowB.fits {w : World} {a : Option Addr} {len cap : Nat} {zs : List (List Int)} (h : RowB w a len cap zs) : ∀ y ∈ zs, ∀ x ∈ y, IntKind.min .u8 ≤ x ∧ x ≤ IntKind.max .u8 := by
  rcases h with ⟨_, _, _, rfl⟩ | ⟨_, _, h1, h2, h3, h4⟩
  · exact fun y hy => by cases hy
  · intro y hy
    obtain ⟨i, hi⟩ := List.getElem?_of_mem hy
    have hlt := (List.getElem?_eq_some_iff.1 hi).1
    obtain ⟨a', l', c', z', _, q2, q3⟩ := h4 i (by omega)
    rw [List.getD_eq_getElem?_getD, hi] at q3
    simp only [Option.getD_some] at q3
    subst q3
    exact q2.fits l'
section
variable {H : Type} {enc : TypeId × Value → H} {P : Program} {w : World} {base : Nat} {held : Bool}
end
def RowS (w : World) (a : Option Addr) (len cap : Nat) (zs : List ByteArray) : Prop :=
  (a = none ∧ len = 0 ∧ cap = 0 ∧ zs = []) ∨
  ∃ x, a = some x ∧ len ≤ cap ∧ cap ≤ maxLen ∧ zs.length = cap ∧ (∀ i, i < zs.length → w.cell? (x.add i) = some (.string (zs.getD i ByteArray.empty))) ∧ ∀ s ∈ zs, s.size ≤ maxLen
theorem RowS.fits {w : World} {a : Option Addr} {len cap : Nat} {zs : List ByteArray} (h : RowS w a len cap zs) (n : Nat) : (zs.take n).length ≤ maxLen ∧ ∀ y ∈ zs.take n, y.size ≤ maxLen := by
  rcases h with ⟨_, _, _, rfl⟩ | ⟨_, _, h1, h2, h3, h4, h5⟩
  · simp
  · refine ⟨by simp only [List.length_take]; omega, fun y hy => h5 y (List.mem_of_mem_take hy)⟩
end Go.Vm
set_option linter.unusedVariables false
set_option linter.unusedSimpArgs false
namespace Go.Vm
open Go
section
variable {H : Type} {enc : TypeId × Value → H} {P : Program} {w : World} {base : Nat} {spare : Nat → Bool} {held : Bool}
end
structure LaidI (P : Program) where
  name : String
  g : Nat
  t : TypeId
  e : TypeId
  k : IntKind
  zs : List Int
def LaidI.ok {P : Program} (x : LaidI P) : Prop := P.globalNamed x.name = some x.g ∧ (P.globals[x.g]?).map (·.type) = some x.t ∧ P.underlying x.t = some (.array x.zs.length x.e) ∧ P.underlying x.e = some (.int x.k) ∧ P.cellsOf x.e = 1 ∧ P.cellsOf x.t = x.zs.length
end Go.Vm
set_option linter.unusedVariables false
set_option linter.unusedSimpArgs false
namespace Go.Vm
open Go
theorem ro_nil {E : Env} {σ : Sig} {V : Value} (k : IntKind) (h : ScR E σ .nils V) : ScR E σ (.ro k []) V := ⟨none, 0, h, Nat.le_refl _, fun h => absurd h (Nat.lt_irrefl _)⟩
theorem Sub.nilRo {U : Nat} {fr : Fr} {M : Mem} (t : Nat) (k : IntKind) (ht : look t fr = some (.sc .nils)) : Sub U (fr, M) U (put1 t (.sc (.ro k [])) fr, M) := by
  refine Sub.of1 ?_
  rintro E κ n a w ⟨σ, h1, h2⟩
  refine ⟨σ, { val := fun t' v hv => ?_, defers := h1.defers, tmps := h1.tmps, toMemR := h1.toMemR }, h2⟩
  simp only [look_put1] at hv
  split at hv
  · rename_i e
    subst e
    cases hv
    obtain ⟨V, q1, q2⟩ := h1.val _ _ ht
    exact ⟨V, q1, ro_nil (σ := σ) k q2⟩
  · exact h1.val _ _ hv
theorem Sub.nilCell {U : Nat} {fr : Fr} {M : Mem} {l : List Sc} (b j : Nat) (k : IntKind) (hb : look b M = some (.cells l)) (hj : l[j]? = some .nils) : Sub U (fr, M) U (fr, put1 b (.cells (l.set j (.ro k []))) M) := by
  refine Sub.of1 ?_
  rintro E κ n a w ⟨σ, h1, h2⟩
  have key : ∀ L, BlkR E σ w (.cells l) L → BlkR E σ w (.cells (l.set j (.ro k []))) L := by
    intro L hB
    cases L with
    | unset => exact hB
    | nil => exact ⟨by simpa [Blk.len] using hB.1, trivial⟩
    | «at» L =>
      obtain ⟨g1, arr, elem, lo, hi, p1, p2, p3, p4, p5, p6⟩ := hB
      refine ⟨trivial, arr, elem, lo, hi, p1, p2, by simpa [Blk.len] using p3, p4, p5, fun i s hs => ?_⟩
      simp only [Blk.get?] at hs
      by_cases e : i = j
      · subst e
        rw [List.getElem?_set_self (by rw [List.getElem?_eq_some_iff] at hj; exact hj.1)] at hs
        cases hs
        obtain ⟨v, q1, q2⟩ := p6 i _ hj
        exact ⟨v, q1, ro_nil k q2⟩
      · rw [List.getElem?_set_ne (Ne.symm e)] at hs
        exact p6 i s hs
  refine ⟨σ, { toFrR := h1.toFrR, tmps := h1.tmps, toMemR := ?_ }, h2⟩
  have less : ∀ c x, look c (put1 b (Blk.cells (l.set j (.ro k []))) M) = some x → (c = b ∧ x = .cells (l.set j (.ro k []))) ∨ look c M = some x := by
    intro c x hc
    rw [look_put1] at hc
    split at hc
    · rename_i e; exact .inl ⟨e, by cases hc; rfl⟩
    · exact .inr hc
  exact { blk := fun c x hc => by
            rcases less c x hc with ⟨rfl, rfl⟩ | hc
            · exact key _ (h1.blk _ _ hb)
            · exact h1.blk c x hc
          inj := fun c d x y L L' hc hd => by
            have f : ∀ c x, look c (put1 b (Blk.cells (l.set j (.ro k []))) M) = some x → ∃ x', look c M = some x' := by
              intro c x hc
              rcases less c x hc with ⟨rfl, rfl⟩ | hc
              · exact ⟨_, hb⟩
              · exact ⟨_, hc⟩
            obtain ⟨x', hx⟩ := f c x hc
            obtain ⟨y', hy⟩ := f d y hd
            exact h1.inj c d x' y' L L' hx hy
          old := h1.old, size := h1.size, olds := h1.olds, os := h1.os, tape := h1.tape, output := h1.output }
end Go.Vm
set_option linter.unusedVariables false
set_option linter.unusedSimpArgs false
namespace Go.Vm
open Go
section
variable {E : Env} {σ : Sig} {M : Mem} {w : World}
def shiftPl (o : Nat) : Pl → Pl
  | .at L => .at { L with β := L.β + o }
  | x => x
theorem BlkR.shift {k : Blk} {p : Pl} (h : BlkR E σ w k p) {o : Nat} (ho : o ≤ k.len) : BlkR E σ w (k.from o) (shiftPl o p) := by
  cases p with
  | unset => exact h
  | nil =>
    obtain ⟨f1, f2, _⟩ := Blk.from_get h.2 o
    exact ⟨by rw [f2]; have := h.1; omega, f1⟩
  | «at» L =>
    obtain ⟨g1, arr, elem, lo, hi, p1, p2, p3, p4, p5, p6⟩ := h
    obtain ⟨f1, f2, f3⟩ := Blk.from_get g1 o
    refine ⟨f1, arr, elem, lo, hi, p1, p2, by rw [f2]; show L.β + o + _ ≤ L.sz; omega, p4, p5, fun j s hs => ?_⟩
    rw [f3] at hs
    obtain ⟨v, q1, q2⟩ := p6 _ _ hs
    exact ⟨v, by show arr[L.β + o + j]? = _; rw [Nat.add_assoc]; exact q1, q2⟩
theorem MemR.add {b : Nat} {p : Pl} {k : Blk} {M' : Mem} (h : MemR E σ M w) (hn : σ b = .unset) (hsub : ∀ c x, look c M' = some x → look c M = some x) (hB : BlkR E σ w k p)
    (hinj : ∀ L, p = .at L → ∀ c x L', look c M' = some x → σ c = .at L' → L'.g ≠ L.g) : MemR E (upd σ b p) (put1 b k M') w := by
  have hx := ext_upd (σ := σ) p hn
  have hnot : ∀ c x, look c M' = some x → c ≠ b := by
    intro c x hc e
    subst e
    have := h.blk c x (hsub c x hc)
    rw [hn] at this
    exact this
  refine { blk := fun c x hc => ?_, inj := fun c d x y L L' hc hd hL hL' hg => ?_, old := h.old, size := h.size, olds := h.olds, os := h.os, tape := h.tape, output := h.output }
  · rw [look_put1] at hc
    by_cases e : c = b
    · rw [if_pos e] at hc
      injection hc with hc
      subst hc e
      rw [upd_same]
      exact hB.ext hx
    · rw [if_neg e] at hc
      rw [upd_other _ _ e]
      exact (h.blk c x (hsub c x hc)).ext hx
  · rw [look_put1] at hc hd
    by_cases e : c = b <;> by_cases e' : d = b
    · omega
    · exfalso
      rw [if_neg e'] at hd
      rw [e, upd_same] at hL
      rw [upd_other _ _ e'] at hL'
      exact hinj L hL d y L' hd hL' hg.symm
    · exfalso
      rw [if_neg e] at hc
      rw [e', upd_same] at hL'
      rw [upd_other _ _ e] at hL
      exact hinj L' hL' c x L hc hL hg
    · rw [if_neg e] at hc
      rw [if_neg e'] at hd
      rw [upd_other _ _ e] at hL
      rw [upd_other _ _ e'] at hL'
      exact h.inj c d x y L L' (hsub c x hc) (hsub d y hd) hL hL' hg
theorem MemR.reblk {b : Nat} {k k' : Blk} (h : MemR E σ M w) (hb : look b M = some k) (hk : BlkR E σ w k (σ b) → BlkR E σ w k' (σ b)) : MemR E σ (put1 b k' M) w := by
  have less : ∀ c x, look c (put1 b k' M) = some x → (c = b ∧ x = k') ∨ look c M = some x := by
    intro c x hc
    rw [look_put1] at hc
    split at hc
    · rename_i e; exact .inl ⟨e, by cases hc; rfl⟩
    · exact .inr hc
  have f : ∀ c x, look c (put1 b k' M) = some x → ∃ x', look c M = some x' := by
    intro c x hc
    rcases less c x hc with ⟨rfl, rfl⟩ | hc
    · exact ⟨_, hb⟩
    · exact ⟨_, hc⟩
  exact { blk := fun c x hc => by
            rcases less c x hc with ⟨rfl, rfl⟩ | hc
            · exact hk (h.blk _ _ hb)
            · exact h.blk c x hc
          inj := fun c d x y L L' hc hd => by
            obtain ⟨x', hx⟩ := f c x hc
            obtain ⟨y', hy⟩ := f d y hd
            exact h.inj c d x' y' L L' hx hy
          old := h.old, size := h.size, olds := h.olds, os := h.os, tape := h.tape, output := h.output }
theorem BlkR.recell {l : List Sc} {j : Nat} {s s' : Sc} {p : Pl} (h : BlkR E σ w (.cells l) p) (hj : l[j]? = some s) (hs : ∀ V, ScR E σ s V → ScR E σ s' V) : BlkR E σ w (.cells (l.set j s')) p := by
  cases p with
  | unset => exact h
  | nil => exact ⟨by simpa [Blk.len] using h.1, trivial⟩
  | «at» L =>
    obtain ⟨g1, arr, elem, lo, hi, p1, p2, p3, p4, p5, p6⟩ := h
    refine ⟨trivial, arr, elem, lo, hi, p1, p2, by simpa [Blk.len] using p3, p4, p5, fun i x hx => ?_⟩
    simp only [Blk.get?] at hx
    by_cases e : i = j
    · subst e
      rw [List.getElem?_set_self (by rw [List.getElem?_eq_some_iff] at hj; exact hj.1)] at hx
      cases hx
      obtain ⟨v, q1, q2⟩ := p6 i _ hj
      exact ⟨v, q1, hs v q2⟩
    · rw [List.getElem?_set_ne (Ne.symm e)] at hx
      exact p6 i x hx
end
variable {fr : Fr} {M : Mem} {U U' : Nat}
theorem FrR.put {E : Env} {σ : Sig} {a : Act} {t : Nat} {v v' : AV} (h : FrR E σ fr a) (ht : look t fr = some v) (hv : ∀ V, AVR E σ v V → AVR E σ v' V) : FrR E σ (put1 t v' fr) a := by
  refine ⟨fun t' u hu => ?_, h.defers⟩
  rw [look_put1] at hu
  split at hu
  · rename_i e
    subst e
    injection hu with hu
    subst hu
    obtain ⟨V, q1, q2⟩ := h.val _ _ ht
    exact ⟨V, q1, hv V q2⟩
  · exact h.val _ _ hu
theorem Sub.tmp {t : Nat} {v v' : AV} (ht : look t fr = some v) (h : ∀ E σ V, AVR E σ v V → AVR E σ v' V) : Sub U (fr, M) U (put1 t v' fr, M) := by
  refine Sub.of1 ?_
  rintro E κ n a w ⟨σ, h1, h2⟩
  exact ⟨σ, { toFrR := h1.toFrR.put ht (h _ _), tmps := h1.tmps, toMemR := h1.toMemR }, h2⟩
theorem Sub.reblk {b : Nat} {k k' : Blk} (hb : look b M = some k) (hk : ∀ E σ w p, BlkR E σ w k p → BlkR E σ w k' p) : Sub U (fr, M) U (fr, put1 b k' M) := by
  refine Sub.of1 ?_
  rintro E κ n a w ⟨σ, h1, h2⟩
  exact ⟨σ, { toFrR := h1.toFrR, tmps := h1.tmps, toMemR := h1.toMemR.reblk hb (hk _ _ _ _) }, h2⟩
theorem keep_upd {κ σ : Sig} {b : Nat} {p : Pl} (h : Keep κ σ) (hb : 16 ≤ b) : Keep κ (upd σ b p) := fun j hj => by
  rw [upd_other _ _ (by omega)]
  exact h j hj
theorem unset_upd {σ : Sig} {b : Nat} {p : Pl} (h : ∀ m, U ≤ m → σ m = .unset) (hb : U ≤ b) (hb' : b < U') : ∀ m, U' ≤ m → upd σ b p m = .unset := fun m hm => by
  rw [upd_other _ _ (by omega)]
  exact h m (by omega)
theorem Sub.openC (c j b : Nat) (es : Nat) (k : Blk) {l : List Sc} (hk : k.len = 0 ∧ k.good) (hb : (Nat.ble U b && Nat.blt b U') = true) (hc : look c M = some (.cells l)) (hj : l[j]? = some .nils) :
    Sub U (fr, M) U' (fr, put1 b k (put1 c (.cells (l.set j (.sl b 0 0 es none))) M)) := by
  rw [Bool.and_eq_true] at hb
  have hb1 := Nat.le_of_ble_eq_true hb.1
  have hb2 := Nat.le_of_ble_eq_true (show Nat.ble (b + 1) U' = true from hb.2)
  refine Sub.of1 ?_
  rintro E κ n a w ⟨σ, h1, h2, h3, h4⟩
  have hn := h2 b hb1
  refine ⟨upd σ b .nil, ?_, unset_upd h2 hb1 (by omega), keep_upd h3 (by omega), by omega⟩
  have h0 : MemR E σ (put1 c (.cells (l.set j (.sl b 0 0 es none))) M) w := h1.toMemR.reblk hc fun hB => hB.recell hj fun V hV => .inl ⟨rfl, .inl rfl, none, hV⟩
  exact { toFrR := h1.toFrR.ext (ext_upd .nil hn)
          tmps := h1.tmps
          toMemR := h0.add hn (fun _ _ h => h) hk fun L hL => by cases hL }
theorem sl_shift {E : Env} {σ : Sig} {b b' off len es : Nat} {cap : Option Nat} {V : Value} (hne : σ b' = .unset) (h : ScR E σ (.sl b off len es cap) V) : ScR E (upd σ b' (shiftPl off (σ b))) (.sl b' 0 len es cap) V := by
  rcases h with ⟨q1, q2, A, rfl⟩ | ⟨L, c, q1, rfl, q2, q3, q4⟩
  · exact .inl ⟨q1, q2, A, rfl⟩
  · refine .inr ⟨{ L with β := L.β + off }, c, by rw [upd_same, q1]; rfl, rfl, q2, q3, ?_⟩
    cases cap with
    | none => exact q4
    | some n => exact q4
theorem Sub.rebaseC (c j b b' : Nat) {off len es : Nat} {cap : Option Nat} {k : Blk} {l : List Sc} (hle : off ≤ k.len) (hb : (Nat.ble U b' && Nat.blt b' U' && !(Nat.beq c b)) = true) (hc : look c M = some (.cells l)) (hj : l[j]? = some (.sl b off len es cap)) (hM : look b M = some k) :
    Sub U (fr, M) U' (fr, put1 c (.cells (l.set j (.sl b' 0 len es cap))) (put1 b' (k.from off) (drop1 b M))) := by
  rw [Bool.and_eq_true, Bool.and_eq_true] at hb
  have hb1 := Nat.le_of_ble_eq_true hb.1.1
  have hb2 := Nat.le_of_ble_eq_true (show Nat.ble (b' + 1) U' = true from hb.1.2)
  have hcb : c ≠ b := fun e => by subst e; rw [beqT] at hb; cases hb.2
  refine Sub.of1 ?_
  rintro E κ n a w ⟨σ, h1, h2, h3, h4⟩
  have hn := h2 b' hb1
  refine ⟨upd σ b' (shiftPl off (σ b)), ?_, unset_upd h2 hb1 (by omega), keep_upd h3 (by omega), by omega⟩
  have hx := ext_upd (σ := σ) (shiftPl off (σ b)) hn
  have less : ∀ c x, look c (drop1 b M) = some x → c ≠ b ∧ look c M = some x := fun c x hc => by
    rw [look_drop1] at hc
    split at hc
    · cases hc
    · rename_i e; exact ⟨e, hc⟩
  have h0 : MemR E (upd σ b' (shiftPl off (σ b))) (put1 b' (k.from off) (drop1 b M)) w := by
    refine h1.toMemR.add hn (fun c x h => (less c x h).2) ((h1.toMemR.blk b k hM).shift hle) ?_
    intro L hL c x L' hc hL' hg
    cases hb : σ b with
    | unset => rw [hb] at hL; cases hL
    | nil => rw [hb] at hL; cases hL
    | «at» L0 =>
      rw [hb] at hL
      injection hL with hL
      subst hL
      exact (less c x hc).1 (h1.inj c b x k L' L0 (less c x hc).2 hM hL' hb hg)
  have hcb' : c ≠ b' := fun e => by
    subst e
    have := h1.toMemR.blk c _ hc
    rw [hn] at this
    exact this
  have hc' : look c (put1 b' (k.from off) (drop1 b M)) = some (.cells l) := by
    rw [look_put1, if_neg hcb', look_drop1, if_neg hcb]
    exact hc
  have hcs : upd σ b' (shiftPl off (σ b)) c = σ c := upd_other _ _ hcb'
  refine { toFrR := h1.toFrR.ext hx, tmps := h1.tmps, toMemR := h0.reblk hc' fun hB => ?_ }
  have hB0 := h1.toMemR.blk c _ hc
  rw [hcs] at hB ⊢
  cases hp : σ c with
  | unset => rw [hp] at hB0; exact hB0
  | nil => rw [hp] at hB0; exact ⟨by simpa [Blk.len] using hB0.1, trivial⟩
  | «at» L =>
    rw [hp] at hB0
    obtain ⟨g1, arr, elem, lo, hi, p1, p2, p3, p4, p5, p6⟩ := hB0
    refine ⟨trivial, arr, elem, lo, hi, p1, p2, by simpa [Blk.len] using p3, p4, p5, fun i x hx' => ?_⟩
    simp only [Blk.get?] at hx'
    by_cases e : i = j
    · subst e
      rw [List.getElem?_set_self (by rw [List.getElem?_eq_some_iff] at hj; exact hj.1)] at hx'
      cases hx'
      obtain ⟨v, q1, q2⟩ := p6 i _ hj
      exact ⟨v, q1, sl_shift hn q2⟩
    · rw [List.getElem?_set_ne (Ne.symm e)] at hx'
      obtain ⟨v, q1, q2⟩ := p6 i x hx'
      exact ⟨v, q1, q2.ext hx⟩
def Blk.ro : Blk → Nat → Nat → Sc
  | .ints k n xs, off, len => .ro k (part1 xs n off len)
  | .vec .row xs, off, len => .rob (partV xs off len)
  | .vec .str xs, off, len => .ros (partV xs off len)
  | _, _, _ => .nilp
def Blk.roC : Blk → Nat × Nat → Prop
  | .ints _ n _, p => p.1 + p.2 ≤ n
  | .vec .row xs, p => p.1 + p.2 ≤ xs.length
  | .vec .str xs, p => p.1 + p.2 ≤ xs.length
  | _, _ => False
def condL (f : Nat × Nat → Prop) : List (Nat × Nat) → Prop
  | [] => True
  | [p] => f p
  | p :: r => f p ∧ condL f r
theorem condL_mem {f : Nat × Nat → Prop} : ∀ {l : List (Nat × Nat)}, condL f l → ∀ p ∈ l, f p
  | [], _, p, hp => by cases hp
  | [q], h, p, hp => by
    rw [List.mem_singleton] at hp
    subst hp
    exact h
  | q :: q' :: r, h, p, hp => by
    rcases List.mem_cons.1 hp with rfl | hp
    · exact h.1
    · exact condL_mem h.2 p hp
def Sc.occ (b : Nat) : Sc → List (Nat × Nat)
  | .sl b' off len 1 _ => bif Nat.beq b' b then [(off, len)] else []
  | _ => []
def Sc.frz (b : Nat) (k : Blk) : Sc → Sc
  | .sl b' off len 1 cap => bif Nat.beq b' b then k.ro off len else .sl b' off len 1 cap
  | y => y
def A1.occ (b : Nat) : A1 → List (Nat × Nat)
  | .sc s => s.occ b
  | .agg l => l.flatMap (Sc.occ b)
  | .ints _ _ _ => []
def A1.frz (b : Nat) (k : Blk) : A1 → A1
  | .sc s => .sc (s.frz b k)
  | .agg l => .agg (l.map (Sc.frz b k))
  | .ints k n xs => .ints k n xs
def AV.occ (b : Nat) : AV → List (Nat × Nat)
  | .sc s => s.occ b
  | .agg l => l.flatMap (Sc.occ b)
  | .ints _ _ _ => []
  | .tup l => l.flatMap (A1.occ b)
def AV.frz (b : Nat) (k : Blk) : AV → AV
  | .sc s => .sc (s.frz b k)
  | .agg l => .agg (l.map (Sc.frz b k))
  | .ints k n xs => .ints k n xs
  | .tup l => .tup (l.map (A1.frz b k))
def Blk.occ (b : Nat) : Blk → List (Nat × Nat)
  | .cells l => l.flatMap (Sc.occ b)
  | _ => []
def frzB (b : Nat) (k : Blk) : Blk → Blk
  | .cells l => .cells (l.map (Sc.frz b k))
  | x => x
def mapL {α : Type} (f : α → α) : List (Nat × α) → List (Nat × α)
  | [] => []
  | (t, v) :: r => (t, f v) :: mapL f r
theorem look_mapL {α : Type} {f : α → α} {t : Nat} {v : α} : ∀ {l : List (Nat × α)}, look t (mapL f l) = some v → ∃ u, look t l = some u ∧ v = f u
  | [], h => by cases h
  | (m, u) :: r, h => by
    simp only [mapL, look] at h ⊢
    cases hb : Nat.beq m t
    · rw [hb] at h; exact look_mapL (l := r) h
    · rw [hb] at h; simp only [cond_true, Option.some.injEq] at h ⊢; exact ⟨u, rfl, h.symm⟩
def St.occ (b : Nat) (s : St) : List (Nat × Nat) := s.1.flatMap (fun x => x.2.occ b) ++ (drop1 b s.2).flatMap (fun x => x.2.occ b)
def St.frz (b : Nat) (k : Blk) (s : St) : St := (mapL (AV.frz b k) s.1, mapL (frzB b k) (drop1 b s.2))
structure FrzE (E E2 : Env) (σ : Sig) (w : World) (b : Nat) (k : Blk) : Prop where
  gr : Grow E E2
  cell : ∀ off len cap V, ScR E σ (.sl b off len 1 cap) V → off + len ≤ k.len → ∃ A c, V = .slice A len c ∧ len ≤ c ∧ (0 < len → ∃ ad, A = some ad ∧ E2.old ad.block ∧ ∀ j, j < len → ∃ s v, k.get? (off + j) = some s ∧ E2.w0.cell? (ad.add j) = some v ∧ ScR E σ s v)
theorem Blk.ro_R {E E2 : Env} {σ : Sig} {w : World} {b : Nat} {k : Blk} (hz : FrzE E E2 σ w b k) (hg : k.good) {off len : Nat} {cap : Option Nat} {V : Value} (h : ScR E σ (.sl b off len 1 cap) V) (hC : k.roC (off, len)) : ScR E2 σ (k.ro off len) V := by
  cases k with
  | cells l => exact hC.elim
  | ints kk n xs =>
    have hC : off + len ≤ n := hC
    have hg : xs.length = n := hg
    show RoR E2 kk (part1 xs n off len) V
    rw [part1_eq hg]
    obtain ⟨A, c, rfl, q1, q2⟩ := hz.cell off len cap V h hC
    have hlen : ((xs.drop off).take len).length = len := by simp; omega
    refine ⟨A, c, by rw [hlen], by rw [hlen]; exact q1, fun hp => ?_⟩
    rw [hlen] at hp
    obtain ⟨ad, rfl, o1, o2⟩ := q2 hp
    refine ⟨ad, rfl, o1, fun j hj => ?_⟩
    rw [hlen] at hj
    obtain ⟨s, v, a1, a2, a3⟩ := o2 j hj
    have hget : xs[off + j]? = some (xs.getD (off + j) 0) := by
      rw [List.getD_eq_getElem?_getD, List.getElem?_eq_getElem (by omega)]; rfl
    have hs : s = .i kk (xs.getD (off + j) 0) := by
      have : (xs[off + j]?).map (.i kk ·) = some s := a1
      rw [hget] at this
      injection this with this
      exact this.symm
    subst hs
    have a3' : v = .int kk (xs.getD (off + j) 0) := a3
    have : ((xs.drop off).take len).getD j 0 = xs.getD (off + j) 0 := by
      simp [List.getD_eq_getElem?_getD, List.getElem?_take, List.getElem?_drop, hj]
    rw [this, ← a3']
    exact a2
  | vec v xs =>
    cases v with
    | tab => exact hC.elim
    | row =>
      have hC : off + len ≤ xs.length := hC
      show ScR E2 σ (.rob (partV xs off len)) V
      rw [partV_eq]
      obtain ⟨A, c, rfl, q1, q2⟩ := hz.cell off len cap V h hC
      have hlen : ((xs.drop off).take len).length = len := by simp; omega
      refine ⟨A, c, by rw [hlen], by rw [hlen]; exact q1, fun hp => ?_⟩
      rw [hlen] at hp
      obtain ⟨ad, rfl, o1, o2⟩ := q2 hp
      refine ⟨ad, rfl, o1, fun j hj => ?_⟩
      rw [hlen] at hj
      obtain ⟨s, v, a1, a2, a3⟩ := o2 j hj
      have hget : xs[off + j]? = some (xs.getD (off + j) []) := by
        rw [List.getD_eq_getElem?_getD, List.getElem?_eq_getElem (by omega)]; rfl
      have hs : s = .ro .u8 (xs.getD (off + j) []) := by
        have : (xs[off + j]?).map (VK.sc .row) = some s := a1
        rw [hget] at this
        injection this with this
        exact this.symm
      subst hs
      have : ((xs.drop off).take len).getD j [] = xs.getD (off + j) [] := by
        simp [List.getD_eq_getElem?_getD, List.getElem?_take, List.getElem?_drop, hj]
      rw [this]
      exact ⟨v, a2, hz.gr.ro a3⟩
    | str =>
      have hC : off + len ≤ xs.length := hC
      show ScR E2 σ (.ros (partV xs off len)) V
      rw [partV_eq]
      obtain ⟨A, c, rfl, q1, q2⟩ := hz.cell off len cap V h hC
      have hlen : ((xs.drop off).take len).length = len := by simp; omega
      refine ⟨A, c, by rw [hlen], by rw [hlen]; exact q1, fun hp => ?_⟩
      rw [hlen] at hp
      obtain ⟨ad, rfl, o1, o2⟩ := q2 hp
      refine ⟨ad, rfl, o1, fun j hj => ?_⟩
      rw [hlen] at hj
      obtain ⟨s, v, a1, a2, a3⟩ := o2 j hj
      have hget : xs[off + j]? = some (xs.getD (off + j) ⟨#[]⟩) := by
        rw [List.getD_eq_getElem?_getD, List.getElem?_eq_getElem (by omega)]; rfl
      have hs : s = .s (xs.getD (off + j) ⟨#[]⟩) := by
        have : (xs[off + j]?).map (VK.sc .str) = some s := a1
        rw [hget] at this
        injection this with this
        exact this.symm
      subst hs
      have a3' : v = .string (xs.getD (off + j) ⟨#[]⟩) := a3
      have : ((xs.drop off).take len).getD j ⟨#[]⟩ = xs.getD (off + j) ⟨#[]⟩ := by
        simp [List.getD_eq_getElem?_getD, List.getElem?_take, List.getElem?_drop, hj]
      rw [this, ← a3']
      exact a2
section
variable {E E2 : Env} {σ : Sig} {w : World} {b : Nat} {k : Blk}
theorem Sc.frz_R (hz : FrzE E E2 σ w b k) (hg : k.good) {s : Sc} {V : Value} (h : ScR E σ s V) (hC : ∀ p ∈ s.occ b, k.roC p) : ScR E2 σ (s.frz b k) V := by
  unfold Sc.frz
  split
  · rename_i b' off len cap
    cases hb : Nat.beq b' b
    · exact ScR.grow (s := .sl b' off len 1 cap) hz.gr h
    · have e := Nat.eq_of_beq_eq_true hb
      subst e
      exact Blk.ro_R hz hg h (hC (off, len) (by simp [Sc.occ, beqT]))
  · exact h.grow hz.gr
theorem scL_frz (hz : FrzE E E2 σ w b k) (hg : k.good) : ∀ {l : List Sc} {m : List Value}, All2 (ScR E σ) l m → (∀ p ∈ l.flatMap (Sc.occ b), k.roC p) → All2 (ScR E2 σ) (l.map (Sc.frz b k)) m
  | [], [], _, _ => trivial
  | s :: r, V :: m, h, hC => ⟨Sc.frz_R hz hg h.1 fun p hp => hC p (by simp [hp]), scL_frz hz hg h.2 fun p hp => hC p (by simp only [List.flatMap_cons, List.mem_append]; exact .inr hp)⟩
theorem A1.frz_R (hz : FrzE E E2 σ w b k) (hg : k.good) {v : A1} {V : Value} (h : A1R E σ v V) (hC : ∀ p ∈ v.occ b, k.roC p) : A1R E2 σ (v.frz b k) V := by
  cases v with
  | sc s => exact Sc.frz_R hz hg h hC
  | agg l => obtain ⟨arr, e, q⟩ := h; exact ⟨arr, e, scL_frz hz hg q hC⟩
  | ints k n xs => exact h
theorem a1L_frz (hz : FrzE E E2 σ w b k) (hg : k.good) : ∀ {l : List A1} {m : List Value}, All2 (A1R E σ) l m → (∀ p ∈ l.flatMap (A1.occ b), k.roC p) → All2 (A1R E2 σ) (l.map (A1.frz b k)) m
  | [], [], _, _ => trivial
  | s :: r, V :: m, h, hC => ⟨A1.frz_R hz hg h.1 fun p hp => hC p (by simp [hp]), a1L_frz hz hg h.2 fun p hp => hC p (by simp only [List.flatMap_cons, List.mem_append]; exact .inr hp)⟩
theorem AV.frz_R (hz : FrzE E E2 σ w b k) (hg : k.good) {v : AV} {V : Value} (h : AVR E σ v V) (hC : ∀ p ∈ v.occ b, k.roC p) : AVR E2 σ (v.frz b k) V := by
  cases v with
  | sc s => exact Sc.frz_R hz hg h hC
  | agg l => obtain ⟨arr, e, q⟩ := h; exact ⟨arr, e, scL_frz hz hg q hC⟩
  | ints k n xs => exact h
  | tup l => obtain ⟨arr, e, q⟩ := h; exact ⟨arr, e, a1L_frz hz hg q hC⟩
theorem frzB_R (hz : FrzE E E2 σ w b k) (hg : k.good) {x : Blk} {p : Pl} (hfz : ∀ l, p = .at l → ¬ E2.fz l.g) (h : BlkR E σ w x p) (hC : ∀ p ∈ x.occ b, k.roC p) : BlkR E2 σ w (frzB b k x) p := by
  cases x with
  | ints kk n xs => exact Blk.grow hz.gr hfz h
  | vec v xs => exact Blk.grow hz.gr hfz h
  | cells l =>
    have hB := Blk.grow hz.gr hfz h
    cases p with
    | unset => exact h
    | nil => exact ⟨by have := h.1; simpa [frzB, Blk.len] using this, trivial⟩
    | «at» L =>
      obtain ⟨g1, arr, elem, lo, hi, p1, p2, p3, p4, p5, p6⟩ := h
      refine ⟨trivial, arr, elem, lo, hi, p1, p2, by simpa [frzB, Blk.len] using p3, hfz L rfl, p5, fun i s hs => ?_⟩
      simp only [frzB, Blk.get?, List.getElem?_map, Option.map_eq_some_iff] at hs
      obtain ⟨s0, h0, rfl⟩ := hs
      obtain ⟨v, q1, q2⟩ := p6 i s0 h0
      exact ⟨v, q1, Sc.frz_R hz hg q2 fun p hp => hC p (List.mem_flatMap.2 ⟨s0, List.mem_of_getElem? h0, hp⟩)⟩
end
theorem Sub.still {s s' : St} (b : Nat) (k : Blk) (hM : look b s.2 = some k) (hC : condL k.roC (s.occ b)) (hs : s.frz b k = s') : Sub U s U s' := by
  subst hs
  obtain ⟨fr, M⟩ := s
  have hcond := condL_mem hC
  rintro E n' a w ⟨E1, hg, σ, h1, h2, h3, h4⟩
  have hB := h1.toMemR.blk b _ hM
  have hgood : k.good := blk_good h1.toMemR hM
  have less : ∀ c k', look c (drop1 b M) = some k' → c ≠ b ∧ look c M = some k' := by
    intro c k' hc
    rw [look_drop1] at hc
    split at hc
    · cases hc
    · rename_i e; exact ⟨e, hc⟩
  have fin : ∀ E2, FrzE E1 E2 σ w b k → E2.kp = E1.kp → (∀ c k' L', c ≠ b → look c M = some k' → σ c = .at L' → ¬ E2.fz L'.g) → (∀ g, E2.fz g → w.heap[g]? = E2.w0.heap[g]?) → E2.w0.heap.size ≤ w.heap.size → (∀ g, E2.fz g → g < E2.w0.heap.size) →
      w.os = E2.w0.os → w.tape = E2.w0.tape → w.output = E2.w0.output → Good E n' U (St.frz b k (fr, M)) a w := by
    intro E2 hz hkp hout o1 o2 o3 o4 o5 o6
    refine ⟨E2, hg.trans hz.gr, σ, ?_, h2, h3, h4⟩
    refine { val := fun t v hv => ?_, defers := h1.defers, tmps := h1.tmps, blk := fun c x hc => ?_, inj := fun c d x y L L' hc hd => ?_, old := o1, size := o2, olds := o3, os := o4, tape := o5, output := o6 }
    · obtain ⟨u, q1, rfl⟩ := look_mapL hv
      obtain ⟨V, q2, q3⟩ := h1.val _ _ q1
      exact ⟨V, q2, AV.frz_R hz hgood q3 fun p hp => hcond p (List.mem_append_left _ (List.mem_flatMap.2 ⟨(t, u), look_mem q1, hp⟩))⟩
    · obtain ⟨u, q1, rfl⟩ := look_mapL hc
      obtain ⟨hne, hc'⟩ := less c u q1
      refine frzB_R hz hgood (fun l hl => hout c u l hne hc' hl) (h1.toMemR.blk c u hc') fun p hp => hcond p (List.mem_append_right _ (List.mem_flatMap.2 ⟨(c, u), look_mem q1, hp⟩))
    · obtain ⟨u, q1, _⟩ := look_mapL hc
      obtain ⟨u', q2, _⟩ := look_mapL hd
      exact h1.inj c d u u' L L' (less c u q1).2 (less d u' q2).2
  cases hL : σ b with
  | unset => rw [hL] at hB; exact hB.elim
  | nil =>
    rw [hL] at hB
    refine fin E1 ⟨.refl _, fun off len cap V h hle => ?_⟩ rfl (fun c k' L' _ hc hl => ?_) h1.old h1.size h1.olds h1.os h1.tape h1.output
    · rcases h with ⟨q1, _, A, rfl⟩ | ⟨L, c, q1, _⟩
      · subst q1
        exact ⟨A, 0, rfl, Nat.le_refl _, fun h => absurd h (Nat.lt_irrefl _)⟩
      · rw [hL] at q1; cases q1
    · have := h1.toMemR.blk c k' hc
      rw [hl] at this
      obtain ⟨_, _, _, _, _, _, _, _, q4, _⟩ := this
      exact q4
  | «at» L =>
    rw [hL] at hB
    obtain ⟨g1, arr, elem, lo, hi, p1, p2, p3, p4, p5, p6⟩ := hB
    have hinj : ∀ c k' L', c ≠ b → look c M = some k' → σ c = .at L' → L'.g ≠ L.g := fun c k' L' hne hc hL' he => hne (h1.inj c b k' _ L' L hc hM hL' hL he)
    let E2 : Env := { P := E1.P, w0 := w, old := fun g => E1.old g ∨ g = L.g, fz := fun g => E1.fz g ∨ g = L.g, sub := fun g h => h.elim (fun h => .inl (E1.sub g h)) .inr, kp := E1.kp }
    have gr : Grow E1 E2 :=
      { P := rfl, old := fun g h => .inl h, fz := fun g h => .inl h, w0 := fun g h => h1.old g h
        new := fun g h => by
          rcases h with h | h
          · exact .inl h
          · subst h; exact .inr p4
        size := h1.size, os := h1.os, tape := h1.tape, output := h1.output }
    refine fin E2 ⟨gr, fun off len cap V h hle => ?_⟩ rfl (fun c k' L' hne hc hl hz => ?_) (fun _ _ => rfl) (Nat.le_refl _) (fun g hg => ?_) rfl rfl rfl
    · rcases h with ⟨q1, _, A, rfl⟩ | ⟨L', c, q1, rfl, q2, q3, _⟩
      · subst q1
        exact ⟨A, 0, rfl, Nat.le_refl _, fun h => absurd h (Nat.lt_irrefl _)⟩
      · rw [hL] at q1
        injection q1 with q1
        subst q1
        refine ⟨_, c, rfl, q2, fun _ => ⟨_, rfl, .inr rfl, fun j hj => ?_⟩⟩
        obtain ⟨s, hs⟩ := Blk.get_some g1 (show off + j < k.len by omega)
        obtain ⟨v, e5, e6⟩ := p6 (off + j) _ hs
        refine ⟨s, v, hs, ?_, e6⟩
        rw [addr_add]
        show w.cell? _ = _
        have hlt : L.β + off + j < L.sz := by omega
        have := p5.1 (L.β + off + j) hlt
        simp [World.cell?, p1, this]
        rw [Nat.add_assoc]
        exact e5
    · rcases hz with hz | hz
      · have hB' := h1.toMemR.blk c k' hc
        rw [hl] at hB'
        obtain ⟨_, _, _, _, _, _, _, _, q4, _⟩ := hB'
        exact q4 hz
      · exact hinj c k' L' hne hc hl hz
    · rcases hg with hg | hg
      · exact Nat.lt_of_lt_of_le (h1.olds g hg) h1.size
      · subst hg; exact heap_lt p1
end Go.Vm
set_option linter.unusedVariables false
set_option linter.unusedSimpArgs false
namespace Go.Vm
open Go
theorem Known.ext {P : Program} {G : Globs} {f : FuncId} {fn : Func} {e : Array Value → Sem Value} {spec : List AV → List Blk → Option (Prop × Ret)} (hf : P.funcs[f]? = some fn) (hname : (fn.name == "runtime.NumGoroutine") = false)
    (hb : fn.body.isNone = true) (hn : Extern.findNext fn = none) (he : Extern.find fn = some e)
    (h : ∀ (E : Env) (σ : Sig) (args : List AV) (Vs : Array Value) (C : Prop) (r : Ret) (w : World), spec args [] = some (C, r) → C → All2 (AVR E σ) args Vs.toList → r.bs = [] ∧ ∃ V, (e Vs).run P w = .ok V w ∧ AVR E σ r.v V) : Known P G f ⟨0, 0, spec⟩ := by
  refine ⟨Nat.zero_le _, ?_⟩
  intro E w args ks Vs C r hP hG hks hkp hM hargs hsp hC
  cases ks with
  | cons _ _ => cases hks
  | nil =>
    obtain ⟨h1, V, h2, h3⟩ := h E E.kp args Vs C r w hsp hC hargs
    refine .inr ⟨V, w, ?_, E, E.kp, .refl E, fun _ hj => absurd hj (by simp), h3, ?_⟩
    · rw [run_callFunc_extern hf hname hb hn he, h2]; rfl
    · rw [h1]; exact hM
theorem size_bytesOf (xs : List Int) : (bytesOf xs).size = xs.length := by simp [bytesOf, ByteArray.size]
end Go.Vm
set_option linter.unusedVariables false
set_option linter.unusedSimpArgs false
namespace Go.Vm
open Go
end Go.Vm
set_option linter.unusedVariables false
set_option linter.unusedSimpArgs false
namespace Go.Vm
open Go
theorem put_get {a : Act} {t : Nat} {V : Value} (h : t < a.tmps.size) : (a.put (some t) V).tmps[t]? = some V := by
  simp only [Act.put]
  rw [Array.getElem?_setIfInBounds_self]
  simp [h]
theorem put_ne {a : Act} {t u : Nat} {V : Value} (h : t ≠ u) : (a.put (some t) V).tmps[u]? = a.tmps[u]? := by
  simp only [Act.put]
  rw [Array.getElem?_setIfInBounds_ne h]
theorem FrR.put0 {E : Env} {σ : Sig} {fr : Fr} {a : Act} {t : Nat} {V : Value} (h : FrR E σ fr a) (ht : look t fr = none) : FrR E σ fr (a.put (some t) V) := by
  refine ⟨fun u v hu => ?_, h.defers⟩
  obtain ⟨W, h1, h2⟩ := h.val u v hu
  refine ⟨W, ?_, h2⟩
  rw [put_ne (fun e => by subst e; rw [ht] at hu; cases hu)]
  exact h1
def ptr (g : Nat) : Value := .pointer (some ⟨g, 0, none⟩)
def ItS (t33 g : Nat) (s : St) : St := (put1 t33 (.sc (.raw (ptr g))) s.1, s.2)
def GoodI (E : Env) (n U : Nat) (s : St) (a : Act) (w : World) (g : Nat) (x : ByteArray) (pos : Nat) : Prop := ∃ E', Grow E E' ∧ Good1 E' E.kp n U s a w ∧ w.heap[g]? = some (.stringIter x pos) ∧ ¬ E'.fz g
theorem not_iter {E : Env} {σ : Sig} {M : Mem} {w : World} {g : Nat} {x : ByteArray} {pos : Nat} (h : MemR E σ M w) (hg : w.heap[g]? = some (.stringIter x pos)) {b : Nat} {k : Blk} {L : Loc} (hb : look b M = some k) (hL : σ b = .at L) : L.g ≠ g := by
  intro e
  have hB := h.blk b k hb
  rw [hL] at hB
  obtain ⟨_, arr, elem, lo, hi, q1, _⟩ := hB
  rw [e, hg] at q1
  cases q1
theorem GoodI.hold {E : Env} {n U : Nat} {s : St} {a : Act} {w : World} {g : Nat} {x : ByteArray} {pos : Nat} (h : GoodI E n U s a w g x pos) :
    ∃ E1, Grow E E1 ∧ E1.kp = E.kp ∧ Good E1 n U s a w ∧ E1.fz g ∧ ¬ E1.old g ∧ E1.w0.heap[g]? = some (.stringIter x pos) ∧ ¬ E.fz g := by
  obtain ⟨E', hg, ⟨σ, h1, h2, h3, h4⟩, h5, h6⟩ := h
  have hgo : ¬ E'.old g := fun h => h6 (E'.sub g h)
  have hgE : ¬ E.fz g := fun h => h6 (hg.fz g h)
  let E1 : Env := { P := E'.P, w0 := w, old := E'.old, fz := fun k => E'.fz k ∨ k = g, sub := fun k h => .inl (E'.sub k h), kp := E.kp }
  have gr : Grow E' E1 :=
    { P := rfl, old := fun _ h => h, fz := fun _ h => .inl h, w0 := fun k h => h1.old k h, new := fun _ h => .inl h, size := h1.size, os := h1.os, tape := h1.tape, output := h1.output }
  refine ⟨E1, hg.trans gr, rfl, ⟨E1, .refl E1, σ, ?_, h2, h3, h4⟩, .inr rfl, hgo, h5, hgE⟩
  refine { toFrR := h1.toFrR.grow gr, tmps := h1.tmps, blk := fun b k hb => ?_, inj := h1.inj, old := fun _ _ => rfl, size := Nat.le_refl _, olds := fun k hk => ?_, os := rfl, tape := rfl, output := rfl }
  · refine Blk.grow gr (fun l hl hz => ?_) (h1.blk b k hb)
    rcases hz with hz | hz
    · have hB := h1.blk b k hb
      rw [hl] at hB
      obtain ⟨_, _, _, _, _, _, _, _, q4, _⟩ := hB
      exact q4 hz
    · exact not_iter h1.toMemR h5 hb hl hz
  · rcases hk with hk | hk
    · exact Nat.lt_of_lt_of_le (h1.olds k hk) h1.size
    · subst hk; exact (Array.getElem?_eq_some_iff.1 h5).1
theorem GoodI.frame {E : Env} {n U : Nat} {s s' : St} {a a' : Act} {w : World} {g : Nat} {x : ByteArray} {pos : Nat} (h : GoodI E n U s a w g x pos) (hM : s'.2 = s.2) (hn : a'.tmps.size = a.tmps.size) (hf : ∀ E' σ, FrR E' σ s.1 a → FrR E' σ s'.1 a') : GoodI E n U s' a' w g x pos := by
  obtain ⟨E', hg, ⟨σ, h1, h2, h3, h4⟩, h5, h6⟩ := h
  exact ⟨E', hg, ⟨σ, { toFrR := hf _ _ h1.toFrR, tmps := hn.trans h1.tmps, toMemR := by rw [hM]; exact h1.toMemR }, h2, h3, h4⟩, h5, h6⟩
theorem GoodI.val {E : Env} {n U : Nat} {s : St} {a : Act} {w : World} {g : Nat} {x : ByteArray} {pos : Nat} (h : GoodI E n U s a w g x pos) {t : Nat} {v : Value} (ht : look t s.1 = some (.sc (.raw v))) : a.tmps[t]? = some v := by
  obtain ⟨E', _, ⟨σ, h1, _⟩, _⟩ := h
  obtain ⟨V, q1, q2⟩ := h1.val _ _ ht
  rw [q1, show V = v from q2.1]
theorem GoodI.size {E : Env} {n U : Nat} {s : St} {a : Act} {w : World} {g : Nat} {x : ByteArray} {pos : Nat} (h : GoodI E n U s a w g x pos) : a.tmps.size = n := by
  obtain ⟨E', _, ⟨σ, h1, _⟩, _⟩ := h
  exact h1.tmps
variable {B : Bs} {E : Env} {U : Nat} {s : St} {Q : Post}
def iterP (U0 t33 g : Nat) (s0 : St) (J : Prop) (Q : Post) : Post
  | .normal, U, s => J ∧ Sub U s U0 (ItS t33 g s0)
  | e, U, s => Q e U s
theorem iterP_ret {U0 t33 g : Nat} {s0 : St} {J : Prop} (h : Q .ret U s) : iterP U0 t33 g s0 J Q .ret U s := h
end Go.Vm
set_option linter.unusedVariables false
namespace Go.Vm
open Go
variable {B : Bs} {E : Env} {U : Nat} {s : St} {Q : Post}
def subP (Q : Post) : Post := fun e U s => ∃ U' s', Sub U s U' s' ∧ Q e U' s'
theorem Tri.subP {c : Code} (h : Tri B E c U s (subP Q)) : Tri B E c U s Q := by
  intro hB a w g
  refine wp_mono (h hB a w g) ?_
  rintro e a' w' ⟨U', s', h1, U'', s'', h2, h3⟩
  exact ⟨U'', s'', h2 _ _ _ _ h1, h3⟩
theorem subP_sub {e : Exit} {U' : Nat} {s' : St} (hs : Sub U s U' s') (h : Vm.subP Q e U' s') : Vm.subP Q e U s := by
  obtain ⟨U'', s'', h1, h2⟩ := h
  exact ⟨U'', s'', hs.trans h1, h2⟩
theorem subP_done {e : Exit} (h : Q e U s) : Vm.subP Q e U s := ⟨U, s, .refl U s, h⟩
theorem endP.nret {P : Program} {rs : List ResultVar} {m : Nat} {r : Ret} (ns : Ren) (C : Prop) (h1 : (renOk ns r.bs.length && ren16 ns m) = true) (h3 : finish P rs ns r.bs.length s = some (C, r)) (h4 : C) : endP P rs m r .normal U s := ⟨ns, C, h1, h3, h4⟩
theorem from_ints (k : IntKind) (n : Nat) (xs : List Int) (o : Nat) : (Blk.ints k n xs).from o = .ints k (n - o) (xs.drop o) := by
  show (bif Nat.beq o 0 then _ else _) = _
  cases h : Nat.beq o 0
  · rfl
  · rw [Nat.eq_of_beq_eq_true h]; rfl
theorem Sub.rebaseCi {U U' : Nat} {fr : Fr} {M : Mem} (c j b b' : Nat) {off len es m : Nat} {cap : Option Nat} {kd : IntKind} {n : Nat} {xs : List Int} {l : List Sc} (ho : off = m) (hle : m ≤ n) (hb : (Nat.ble U b' && Nat.blt b' U' && !(Nat.beq c b)) = true) (hc : look c M = some (.cells l)) (hj : l[j]? = some (.sl b off len es cap)) (hM : look b M = some (.ints kd n xs)) :
    Sub U (fr, M) U' (fr, put1 c (.cells (l.set j (.sl b' 0 len es cap))) (put1 b' (.ints kd (n - m) (xs.drop m)) (drop1 b M))) := by
  subst ho
  rw [← from_ints]
  exact Sub.rebaseC c j b b' hle hb hc hj hM
end Go.Vm
set_option linter.unusedVariables false
set_option linter.unusedSimpArgs false
set_option maxRecDepth 4000
namespace Go.Vm
open Go
theorem mixed:Go.Proofs.Try.prog.follows .mixedOrders=true:=by kernel_rfl
noncomputable def SwFrom:List AV→List Blk→Option (Prop × Ret)
 | [.sc (.ro .u8 p0)],[] => some (True,⟨.sc (.p 0 0),[some (.cells [.ro .u8 p0,.b false])]⟩)
 | _,_ => none
noncomputable def BwFrom:Bs:={ P:=Go.Proofs.Try.prog,G:=noG,tab:=tabOf [],n:=6 }
theorem BwFrom.ok:BwFrom.Ok:=⟨tabOk (P:=Go.Proofs.Try.prog) (G:=noG) (l:=[]) True.intro,mixed⟩
theorem KwFrom:Known Go.Proofs.Try.prog noG 31 ⟨0,1,SwFrom⟩:=by
 refine Known.walk (B:=BwFrom) (fn:=Go.Proofs.Try.f31) BwFrom.ok (by kernel_rfl) rfl (by kernel_rfl) (by kernel_rfl) (by decide) (by decide) ?_
 ·intro E args ks C r h hC hlen
  simp only at h
  unfold SwFrom at h
  split at h
  rotate_left
  ·cases h
  rename_i p0
  cases h
  simp only [lens] at hlen
  refine ⟨show 1≤6 from by decide,?_⟩
  refine Tri.sub (Sub.of_eq (show _=([(0,.sc (.ro .u8 p0))],[]) from rfl)) ?_
  refine Tri.seq_region [] none [0] [] (TT∧True)
    ([(0,.sc (.ro .u8 p0))],[])
    32 (by kernel_rfl) rfl (by kernel_rfl) (⟨tt,trivial⟩) ?_
  refine Tri.seq_region [] none [2] [64] (TT∧(((((0 < 2)∧(1=1))∧True)∧True)∧(TT∧(TT∧True))))
    ([(2,.sc (.p 64 0))],[(64,.cells [.ro .u8 p0,.b false])])
    96 (by kernel_rfl) rfl (by kernel_rfl) (⟨tt,⟨⟨⟨⟨(by first | omega | (rw [adr_eq]; omega) | exact iAnd_nn _ _ | exact iSub_nn _ _ | exact part1_le (by omega) (by first | omega | (simp only [List.length_append]; omega)) | decide),(rfl)⟩,trivial⟩,trivial⟩,⟨tt,⟨tt,trivial⟩⟩⟩⟩) ?_
  refine Tri.ret ?_
  repeat (first | refine thenP_ret ?_ | refine blkP_ret ?_ | refine countP_ret ?_ | refine joinP_ret ?_ | refine iterP_ret ?_)
  exact endP.ret [(64,0)] TT (by kernel_rfl) (by kernel_rfl) tt
noncomputable def FwtakeOk (p0:List Int) (p1:Bool) (p2:Int):List Int :=
 (p0.drop 0).take (((p2).toNat) - 0)
noncomputable def FwtakeOk_1 (p0:List Int) (p1:Bool) (p2:Int):List Int :=
 (p0.drop ((p2).toNat)).take (p0.length - ((p2).toNat))
noncomputable def SwtakeOk:List AV→List Blk→Option (Prop × Ret)
 | [.sc (.p 0 0),.sc (.i .i64 p2)],[.cells [.ro .u8 p0,.b p1]] => some (((p1=false)∧(((decide ((p2:Int) > (p0.length:Int)))=false)∧((0:Int)≤p2))),⟨.sc (.ro .u8 (FwtakeOk p0 p1 p2)),[some (.cells [.ro .u8 (FwtakeOk_1 p0 p1 p2),.b p1])]⟩)
 | _,_ => none
noncomputable def BwtakeOk:Bs:={ P:=Go.Proofs.Try.prog,G:=noG,tab:=tabOf [],n:=48 }
theorem BwtakeOk.ok:BwtakeOk.Ok:=⟨tabOk (P:=Go.Proofs.Try.prog) (G:=noG) (l:=[]) True.intro,mixed⟩
theorem KwtakeOk:Known Go.Proofs.Try.prog noG 42 ⟨1,0,SwtakeOk⟩:=by
 refine Known.walk (B:=BwtakeOk) (fn:=Go.Proofs.Try.f42) BwtakeOk.ok (by kernel_rfl) rfl (by kernel_rfl) (by kernel_rfl) (by decide) (by decide) ?_
 ·intro E args ks C r h hC hlen
  simp only at h
  unfold SwtakeOk at h
  split at h
  rotate_left
  ·cases h
  rename_i p2 p0 p1
  cases h
  simp only [lens] at hlen
  have hG0:=hC.1
  have hG1:=hC.2.1
  have hG1':=of_decide_eq_false hG1
  have hC:=hC.2.2
  refine ⟨show 2≤48 from by decide,?_⟩
  refine Tri.sub (Sub.of_eq (show _=([(0,.sc (.p 0 0)),(1,.sc (.i .i64 p2))],[(0,.cells [.ro .u8 p0,.b p1])]) from rfl)) ?_
  refine Tri.seq_region [] none [0,1] [0] (TT∧True)
    ([(0,.sc (.p 0 0)),(1,.sc (.i .i64 p2))],[(0,.cells [.ro .u8 p0,.b p1])])
    32 (by kernel_rfl) rfl (by kernel_rfl) (⟨tt,trivial⟩) ?_
  refine Tri.seq ?_
  refine Tri.seq_region [(14,qb false)] none [22,0,1] [0] (TT∧(TT∧(TT∧(TT∧(TT∧(TT∧(((1 < 2)∧True)∧(TT∧((True∧(p1=false))∧(TT∧(TT∧(TT∧(TT∧(((0 < 2)∧True)∧(TT∧(TT∧(TT∧True)))))))))))))))))
    ([(22,.sc (.b (decide ((p2:Int) > (p0.length:Int))))),(0,.sc (.p 0 0)),(1,.sc (.i .i64 p2))],[(0,.cells [.ro .u8 p0,.b p1])])
    304 (by kernel_rfl) rfl (by kernel_rfl) (⟨tt,⟨tt,⟨tt,⟨tt,⟨tt,⟨tt,⟨⟨(by first | omega | (rw [adr_eq]; omega) | exact iAnd_nn _ _ | exact iSub_nn _ _ | exact part1_le (by omega) (by first | omega | (simp only [List.length_append]; omega)) | decide),trivial⟩,⟨tt,⟨⟨trivial,(hG0)⟩,⟨tt,⟨tt,⟨tt,⟨tt,⟨⟨(by first | omega | (rw [adr_eq]; omega) | exact iAnd_nn _ _ | exact iSub_nn _ _ | exact part1_le (by omega) (by first | omega | (simp only [List.length_append]; omega)) | decide),trivial⟩,⟨tt,⟨tt,⟨tt,trivial⟩⟩⟩⟩⟩⟩⟩⟩⟩⟩⟩⟩⟩⟩⟩⟩⟩) ?_
  refine Tri.cond (x:=(decide ((p2:Int) > (p0.length:Int)))) (by kernel_rfl) (fun h => absurd (h.symm.trans hG1) (by decide)) (fun h => ?_)
  refine Tri.skip ?_
  change Tri _ _ _ _ _ _
  refine Tri.seq_region [] none [5,0,1] [0] (TT∧(TT∧(TT∧(((0 < 2)∧True)∧(TT∧(TT∧((((0:Int)≤0∧(0:Int)≤p2∧(p2:Int)≤p2∧(p2:Int)≤(p0.length:Int))∧True)∧(TT∧True))))))))
    ([(5,.sc (.ro .u8 ((p0.drop 0).take (((p2).toNat) - 0)))),(0,.sc (.p 0 0)),(1,.sc (.i .i64 p2))],[(0,.cells [.ro .u8 p0,.b p1])])
    432 (by kernel_rfl) rfl (by kernel_rfl) (⟨tt,⟨tt,⟨tt,⟨⟨(by first | omega | (rw [adr_eq]; omega) | exact iAnd_nn _ _ | exact iSub_nn _ _ | exact part1_le (by omega) (by first | omega | (simp only [List.length_append]; omega)) | decide),trivial⟩,⟨tt,⟨tt,⟨⟨(by first | omega | (rw [adr_eq]; omega) | exact iAnd_nn _ _ | exact iSub_nn _ _ | exact part1_le (by omega) (by first | omega | (simp only [List.length_append]; omega)) | decide),trivial⟩,⟨tt,trivial⟩⟩⟩⟩⟩⟩⟩⟩) ?_
  refine Tri.seq_region [] none [5] [0] (TT∧(TT∧(TT∧(TT∧(((0 < 2)∧True)∧(TT∧((((0:Int)≤p2∧(p2:Int)≤(p0.length:Int)∧(p0.length:Int)≤(p0.length:Int))∧True)∧(TT∧(TT∧((((0 < 2)∧(1=1))∧True)∧True))))))))))
    ([(5,.sc (.ro .u8 ((p0.drop 0).take (((p2).toNat) - 0))))],[(0,.cells [.ro .u8 ((p0.drop ((p2).toNat)).take (p0.length - ((p2).toNat))),.b p1])])
    592 (by kernel_rfl) rfl (by kernel_rfl) (⟨tt,⟨tt,⟨tt,⟨tt,⟨⟨(by first | omega | (rw [adr_eq]; omega) | exact iAnd_nn _ _ | exact iSub_nn _ _ | exact part1_le (by omega) (by first | omega | (simp only [List.length_append]; omega)) | decide),trivial⟩,⟨tt,⟨⟨(by first | omega | (rw [adr_eq]; omega) | exact iAnd_nn _ _ | exact iSub_nn _ _ | exact part1_le (by omega) (by first | omega | (simp only [List.length_append]; omega)) | decide),trivial⟩,⟨tt,⟨tt,⟨⟨⟨(by first | omega | (rw [adr_eq]; omega) | exact iAnd_nn _ _ | exact iSub_nn _ _ | exact part1_le (by omega) (by first | omega | (simp only [List.length_append]; omega)) | decide),(rfl)⟩,trivial⟩,trivial⟩⟩⟩⟩⟩⟩⟩⟩⟩⟩) ?_
  refine Tri.seq_region [] none [4] [0] (TT∧(TT∧True))
    ([(4,.sc (.ro .u8 ((p0.drop 0).take (((p2).toNat) - 0))))],[(0,.cells [.ro .u8 ((p0.drop ((p2).toNat)).take (p0.length - ((p2).toNat))),.b p1])])
    624 (by kernel_rfl) rfl (by kernel_rfl) (⟨tt,⟨tt,trivial⟩⟩) ?_
  refine Tri.ret ?_
  repeat (first | refine thenP_ret ?_ | refine blkP_ret ?_ | refine countP_ret ?_ | refine joinP_ret ?_ | refine iterP_ret ?_)
  exact endP.ret [(0,0)] TT (by kernel_rfl) (by kernel_rfl) tt
theorem len_FwtakeOk {p0:List Int} {p1:Bool} {p2:Int} (h:(decide ((p2:Int) > (p0.length:Int)))=false) (h0:0≤p2):((FwtakeOk p0 p1 p2).length:Int)=p2:=by
 have:=of_decide_eq_false h
 unfold FwtakeOk
 simp only [List.length_take,List.length_drop]
 omega
noncomputable def SwtakeNo:List AV→List Blk→Option (Prop × Ret)
 | [.sc (.p 0 0),.sc (.i .i64 p2)],[.cells [.ro .u8 p0,.b p1]] => some (((p1=false)∧(((decide ((p2:Int) > (p0.length:Int)))=true)∧True)),⟨.sc (.nils),[some (.cells [.ro .u8 ([]:List Int),.b true])]⟩)
 | _,_ => none
noncomputable def BwtakeNo:Bs:={ P:=Go.Proofs.Try.prog,G:=noG,tab:=tabOf [],n:=48 }
theorem BwtakeNo.ok:BwtakeNo.Ok:=⟨tabOk (P:=Go.Proofs.Try.prog) (G:=noG) (l:=[]) True.intro,mixed⟩
theorem KwtakeNo:Known Go.Proofs.Try.prog noG 42 ⟨1,0,SwtakeNo⟩:=by
 refine Known.walk (B:=BwtakeNo) (fn:=Go.Proofs.Try.f42) BwtakeNo.ok (by kernel_rfl) rfl (by kernel_rfl) (by kernel_rfl) (by decide) (by decide) ?_
 ·intro E args ks C r h hC hlen
  simp only at h
  unfold SwtakeNo at h
  split at h
  rotate_left
  ·cases h
  rename_i p2 p0 p1
  cases h
  simp only [lens] at hlen
  have hG0:=hC.1
  have hG1:=hC.2.1
  have hG1':=of_decide_eq_true hG1
  have hC:=hC.2.2
  refine ⟨show 2≤48 from by decide,?_⟩
  refine Tri.sub (Sub.of_eq (show _=([(0,.sc (.p 0 0)),(1,.sc (.i .i64 p2))],[(0,.cells [.ro .u8 p0,.b p1])]) from rfl)) ?_
  refine Tri.seq_region [] none [0,1] [0] (TT∧True)
    ([(0,.sc (.p 0 0)),(1,.sc (.i .i64 p2))],[(0,.cells [.ro .u8 p0,.b p1])])
    32 (by kernel_rfl) rfl (by kernel_rfl) (⟨tt,trivial⟩) ?_
  refine Tri.seq ?_
  refine Tri.seq_region [(14,qb false)] none [22,0,1] [0] (TT∧(TT∧(TT∧(TT∧(TT∧(TT∧(((1 < 2)∧True)∧(TT∧((True∧(p1=false))∧(TT∧(TT∧(TT∧(TT∧(((0 < 2)∧True)∧(TT∧(TT∧(TT∧True)))))))))))))))))
    ([(22,.sc (.b (decide ((p2:Int) > (p0.length:Int))))),(0,.sc (.p 0 0)),(1,.sc (.i .i64 p2))],[(0,.cells [.ro .u8 p0,.b p1])])
    304 (by kernel_rfl) rfl (by kernel_rfl) (⟨tt,⟨tt,⟨tt,⟨tt,⟨tt,⟨tt,⟨⟨(by first | omega | (rw [adr_eq]; omega) | exact iAnd_nn _ _ | exact iSub_nn _ _ | exact part1_le (by omega) (by first | omega | (simp only [List.length_append]; omega)) | decide),trivial⟩,⟨tt,⟨⟨trivial,(hG0)⟩,⟨tt,⟨tt,⟨tt,⟨tt,⟨⟨(by first | omega | (rw [adr_eq]; omega) | exact iAnd_nn _ _ | exact iSub_nn _ _ | exact part1_le (by omega) (by first | omega | (simp only [List.length_append]; omega)) | decide),trivial⟩,⟨tt,⟨tt,⟨tt,trivial⟩⟩⟩⟩⟩⟩⟩⟩⟩⟩⟩⟩⟩⟩⟩⟩⟩) ?_
  refine Tri.cond (x:=(decide ((p2:Int) > (p0.length:Int)))) (by kernel_rfl) (fun h => ?_) (fun h => absurd (h.symm.trans hG1) (by decide))
  refine Tri.seq ?_
  refine Tri.seq_region [] none [24,0] [0] (TT∧(TT∧True))
    ([(24,.sc (.b true)),(0,.sc (.p 0 0))],[(0,.cells [.ro .u8 p0,.b p1])])
    336 (by kernel_rfl) rfl (by kernel_rfl) (⟨tt,⟨tt,trivial⟩⟩) ?_
  refine Tri.cond_true (by kernel_rfl) ?_
  refine Tri.region' [] none [] [0] (TT∧(TT∧(TT∧(TT∧((((1 < 2)∧(1=1))∧True)∧(TT∧(TT∧((((0 < 2)∧(1=1))∧True)∧True))))))))
    ([],[(0,.cells [.nils,.b true])])
    464 (by kernel_rfl) rfl (by kernel_rfl) (⟨tt,⟨tt,⟨tt,⟨tt,⟨⟨⟨(by first | omega | (rw [adr_eq]; omega) | exact iAnd_nn _ _ | exact iSub_nn _ _ | exact part1_le (by omega) (by first | omega | (simp only [List.length_append]; omega)) | decide),(rfl)⟩,trivial⟩,⟨tt,⟨tt,⟨⟨⟨(by first | omega | (rw [adr_eq]; omega) | exact iAnd_nn _ _ | exact iSub_nn _ _ | exact part1_le (by omega) (by first | omega | (simp only [List.length_append]; omega)) | decide),(rfl)⟩,trivial⟩,trivial⟩⟩⟩⟩⟩⟩⟩⟩) ?_
  change Tri _ _ _ _ _ _
  refine Tri.seq_region [] none [4] [0] (TT∧True)
    ([(4,.sc (.nils))],[(0,.cells [.nils,.b true])])
    480 (by kernel_rfl) rfl (by kernel_rfl) (⟨tt,trivial⟩) ?_
  refine Tri.sub (Sub.nilCell (l:=[.nils,.b true]) 0 0 .u8 (by kernel_rfl) (by kernel_rfl)) ?_
  refine Tri.ret ?_
  repeat (first | refine thenP_ret ?_ | refine blkP_ret ?_ | refine countP_ret ?_ | refine joinP_ret ?_ | refine iterP_ret ?_)
  exact endP.ret [(0,0)] TT (by kernel_rfl) (by kernel_rfl) tt
noncomputable def SwtakeBad:List AV→List Blk→Option (Prop × Ret)
 | [.sc (.p 0 0),.sc (.i .i64 p2)],[.cells [.ro .u8 p0,.b p1]] => some (((p1=true)∧True),⟨.sc (.nils),[some (.cells [.ro .u8 ([]:List Int),.b true])]⟩)
 | _,_ => none
noncomputable def BwtakeBad:Bs:={ P:=Go.Proofs.Try.prog,G:=noG,tab:=tabOf [],n:=48 }
theorem BwtakeBad.ok:BwtakeBad.Ok:=⟨tabOk (P:=Go.Proofs.Try.prog) (G:=noG) (l:=[]) True.intro,mixed⟩
theorem KwtakeBad:Known Go.Proofs.Try.prog noG 42 ⟨1,0,SwtakeBad⟩:=by
 refine Known.walk (B:=BwtakeBad) (fn:=Go.Proofs.Try.f42) BwtakeBad.ok (by kernel_rfl) rfl (by kernel_rfl) (by kernel_rfl) (by decide) (by decide) ?_
 ·intro E args ks C r h hC hlen
  simp only at h
  unfold SwtakeBad at h
  split at h
  rotate_left
  ·cases h
  rename_i p2 p0 p1
  cases h
  simp only [lens] at hlen
  have hG0:=hC.1
  have hC:=hC.2
  refine ⟨show 2≤48 from by decide,?_⟩
  refine Tri.sub (Sub.of_eq (show _=([(0,.sc (.p 0 0)),(1,.sc (.i .i64 p2))],[(0,.cells [.ro .u8 p0,.b p1])]) from rfl)) ?_
  refine Tri.seq_region [] none [0,1] [0] (TT∧True)
    ([(0,.sc (.p 0 0)),(1,.sc (.i .i64 p2))],[(0,.cells [.ro .u8 p0,.b p1])])
    32 (by kernel_rfl) rfl (by kernel_rfl) (⟨tt,trivial⟩) ?_
  refine Tri.seq ?_
  refine Tri.seq_region [(14,qb true)] none [22,0,1] [0] (TT∧(TT∧(TT∧(TT∧(TT∧(TT∧(((1 < 2)∧True)∧(TT∧((True∧(p1=true))∧(TT∧(TT∧(TT∧(TT∧(TT∧(TT∧(TT∧(TT∧True)))))))))))))))))
    ([(22,.sc (.b true)),(0,.sc (.p 0 0)),(1,.sc (.i .i64 p2))],[(0,.cells [.ro .u8 p0,.b p1])])
    304 (by kernel_rfl) rfl (by kernel_rfl) (⟨tt,⟨tt,⟨tt,⟨tt,⟨tt,⟨tt,⟨⟨(by first | omega | (rw [adr_eq]; omega) | exact iAnd_nn _ _ | exact iSub_nn _ _ | exact part1_le (by omega) (by first | omega | (simp only [List.length_append]; omega)) | decide),trivial⟩,⟨tt,⟨⟨trivial,(hG0)⟩,⟨tt,⟨tt,⟨tt,⟨tt,⟨tt,⟨tt,⟨tt,⟨tt,trivial⟩⟩⟩⟩⟩⟩⟩⟩⟩⟩⟩⟩⟩⟩⟩⟩⟩) ?_
  refine Tri.cond_true (by kernel_rfl) ?_
  refine Tri.seq ?_
  refine Tri.seq_region [] none [24,0] [0] (TT∧(TT∧True))
    ([(24,.sc (.b true)),(0,.sc (.p 0 0))],[(0,.cells [.ro .u8 p0,.b p1])])
    336 (by kernel_rfl) rfl (by kernel_rfl) (⟨tt,⟨tt,trivial⟩⟩) ?_
  refine Tri.cond_true (by kernel_rfl) ?_
  refine Tri.region' [] none [] [0] (TT∧(TT∧(TT∧(TT∧((((1 < 2)∧(1=1))∧True)∧(TT∧(TT∧((((0 < 2)∧(1=1))∧True)∧True))))))))
    ([],[(0,.cells [.nils,.b true])])
    464 (by kernel_rfl) rfl (by kernel_rfl) (⟨tt,⟨tt,⟨tt,⟨tt,⟨⟨⟨(by first | omega | (rw [adr_eq]; omega) | exact iAnd_nn _ _ | exact iSub_nn _ _ | exact part1_le (by omega) (by first | omega | (simp only [List.length_append]; omega)) | decide),(rfl)⟩,trivial⟩,⟨tt,⟨tt,⟨⟨⟨(by first | omega | (rw [adr_eq]; omega) | exact iAnd_nn _ _ | exact iSub_nn _ _ | exact part1_le (by omega) (by first | omega | (simp only [List.length_append]; omega)) | decide),(rfl)⟩,trivial⟩,trivial⟩⟩⟩⟩⟩⟩⟩⟩) ?_
  change Tri _ _ _ _ _ _
  refine Tri.seq_region [] none [4] [0] (TT∧True)
    ([(4,.sc (.nils))],[(0,.cells [.nils,.b true])])
    480 (by kernel_rfl) rfl (by kernel_rfl) (⟨tt,trivial⟩) ?_
  refine Tri.sub (Sub.nilCell (l:=[.nils,.b true]) 0 0 .u8 (by kernel_rfl) (by kernel_rfl)) ?_
  refine Tri.ret ?_
  repeat (first | refine thenP_ret ?_ | refine blkP_ret ?_ | refine countP_ret ?_ | refine joinP_ret ?_ | refine iterP_ret ?_)
  exact endP.ret [(0,0)] TT (by kernel_rfl) (by kernel_rfl) tt
noncomputable def FwtakeF (p0:List Int) (p1:Bool) (p2:Int):List Int :=
 (sel p1 ([]:List Int) (sel (decide ((p2:Int) > (p0.length:Int))) ([]:List Int) ((p0.drop 0).take (((p2).toNat) - 0))))
noncomputable def FwtakeF_1 (p0:List Int) (p1:Bool) (p2:Int):List Int :=
 (sel p1 ([]:List Int) (sel (decide ((p2:Int) > (p0.length:Int))) ([]:List Int) ((p0.drop ((p2).toNat)).take (p0.length - ((p2).toNat)))))
noncomputable def FwtakeF_2 (p0:List Int) (p1:Bool) (p2:Int):Bool :=
 (sel p1 true (sel (decide ((p2:Int) > (p0.length:Int))) true p1))
noncomputable def SwtakeF:List AV→List Blk→Option (Prop × Ret)
 | [.sc (.p 0 0),.sc (.i .i64 p2)],[.cells [.ro .u8 p0,.b p1]] => some (((0:Int)≤p2),⟨.sc (.ro .u8 (FwtakeF p0 p1 p2)),[some (.cells [.ro .u8 (FwtakeF_1 p0 p1 p2),.b (FwtakeF_2 p0 p1 p2)])]⟩)
 | _,_ => none
noncomputable def BwtakeF:Bs:={ P:=Go.Proofs.Try.prog,G:=noG,tab:=tabOf [],n:=48 }
theorem BwtakeF.ok:BwtakeF.Ok:=⟨tabOk (P:=Go.Proofs.Try.prog) (G:=noG) (l:=[]) True.intro,mixed⟩
theorem KwtakeF:Known Go.Proofs.Try.prog noG 42 ⟨1,0,SwtakeF⟩:=by
 refine Known.walk (B:=BwtakeF) (fn:=Go.Proofs.Try.f42) BwtakeF.ok (by kernel_rfl) rfl (by kernel_rfl) (by kernel_rfl) (by decide) (by decide) ?_
 ·intro E args ks C r h hC hlen
  simp only at h
  unfold SwtakeF at h
  split at h
  rotate_left
  ·cases h
  rename_i p2 p0 p1
  cases h
  simp only [lens] at hlen
  refine ⟨show 2≤48 from by decide,?_⟩
  refine Tri.sub (Sub.of_eq (show _=([(0,.sc (.p 0 0)),(1,.sc (.i .i64 p2))],[(0,.cells [.ro .u8 p0,.b p1])]) from rfl)) ?_
  refine Tri.seq_region [] none [0,1] [0] (TT∧True)
    ([(0,.sc (.p 0 0)),(1,.sc (.i .i64 p2))],[(0,.cells [.ro .u8 p0,.b p1])])
    32 (by kernel_rfl) rfl (by kernel_rfl) (⟨tt,trivial⟩) ?_
  refine Tri.seq ?_
  refine Tri.split p1 (fun h1 => ?_) (fun h1 => ?_)
  ·
   refine Tri.seq_region [(14,qb true)] none [22,0,1] [0] (TT∧(TT∧(TT∧(TT∧(TT∧(TT∧(((1 < 2)∧True)∧(TT∧((True∧(p1=true))∧(TT∧(TT∧(TT∧(TT∧(TT∧(TT∧(TT∧(TT∧True)))))))))))))))))
     ([(22,.sc (.b true)),(0,.sc (.p 0 0)),(1,.sc (.i .i64 p2))],[(0,.cells [.ro .u8 p0,.b p1])])
     304 (by kernel_rfl) rfl (by kernel_rfl) (⟨tt,⟨tt,⟨tt,⟨tt,⟨tt,⟨tt,⟨⟨(by first | omega | (rw [adr_eq]; omega) | exact iAnd_nn _ _ | exact iSub_nn _ _ | exact part1_le (by omega) (by first | omega | (simp only [List.length_append]; omega)) | decide),trivial⟩,⟨tt,⟨⟨trivial,(h1)⟩,⟨tt,⟨tt,⟨tt,⟨tt,⟨tt,⟨tt,⟨tt,⟨tt,trivial⟩⟩⟩⟩⟩⟩⟩⟩⟩⟩⟩⟩⟩⟩⟩⟩⟩) ?_
   refine Tri.cond_true (by kernel_rfl) ?_
   refine Tri.seq ?_
   refine Tri.seq_region [] none [24,0] [0] (TT∧(TT∧True))
     ([(24,.sc (.b true)),(0,.sc (.p 0 0))],[(0,.cells [.ro .u8 p0,.b p1])])
     336 (by kernel_rfl) rfl (by kernel_rfl) (⟨tt,⟨tt,trivial⟩⟩) ?_
   refine Tri.cond_true (by kernel_rfl) ?_
   refine Tri.region' [] none [] [0] (TT∧(TT∧(TT∧(TT∧((((1 < 2)∧(1=1))∧True)∧(TT∧(TT∧((((0 < 2)∧(1=1))∧True)∧True))))))))
     ([],[(0,.cells [.nils,.b true])])
     464 (by kernel_rfl) rfl (by kernel_rfl) (⟨tt,⟨tt,⟨tt,⟨tt,⟨⟨⟨(by first | omega | (rw [adr_eq]; omega) | exact iAnd_nn _ _ | exact iSub_nn _ _ | exact part1_le (by omega) (by first | omega | (simp only [List.length_append]; omega)) | decide),(rfl)⟩,trivial⟩,⟨tt,⟨tt,⟨⟨⟨(by first | omega | (rw [adr_eq]; omega) | exact iAnd_nn _ _ | exact iSub_nn _ _ | exact part1_le (by omega) (by first | omega | (simp only [List.length_append]; omega)) | decide),(rfl)⟩,trivial⟩,trivial⟩⟩⟩⟩⟩⟩⟩⟩) ?_
   change Tri _ _ _ _ _ _
   refine Tri.seq_region [] none [4] [0] (TT∧True)
     ([(4,.sc (.nils))],[(0,.cells [.nils,.b true])])
     480 (by kernel_rfl) rfl (by kernel_rfl) (⟨tt,trivial⟩) ?_
   refine Tri.sub (Sub.nilRo 4 .u8 (by kernel_rfl)) ?_
   refine Tri.sub (Sub.nilCell (l:=[.nils,.b true]) 0 0 .u8 (by kernel_rfl) (by kernel_rfl)) ?_
   refine Tri.ret ?_
   repeat (first | refine thenP_ret ?_ | refine blkP_ret ?_ | refine countP_ret ?_ | refine joinP_ret ?_ | refine iterP_ret ?_)
   refine endP.conv (r':=⟨.sc (.ro .u8 ([]:List Int)),[some (.cells [.ro .u8 ([]:List Int),.b true])]⟩) (by simp only [FwtakeF,FwtakeF_1,FwtakeF_2,h1,sel_true,sel_false]) ?_
   exact endP.ret [(0,0)] TT (by kernel_rfl) (by kernel_rfl) tt
  ·
   refine Tri.seq_region [(14,qb false)] none [22,0,1] [0] (TT∧(TT∧(TT∧(TT∧(TT∧(TT∧(((1 < 2)∧True)∧(TT∧((True∧(p1=false))∧(TT∧(TT∧(TT∧(TT∧(((0 < 2)∧True)∧(TT∧(TT∧(TT∧True)))))))))))))))))
     ([(22,.sc (.b (decide ((p2:Int) > (p0.length:Int))))),(0,.sc (.p 0 0)),(1,.sc (.i .i64 p2))],[(0,.cells [.ro .u8 p0,.b p1])])
     304 (by kernel_rfl) rfl (by kernel_rfl) (⟨tt,⟨tt,⟨tt,⟨tt,⟨tt,⟨tt,⟨⟨(by first | omega | (rw [adr_eq]; omega) | exact iAnd_nn _ _ | exact iSub_nn _ _ | exact part1_le (by omega) (by first | omega | (simp only [List.length_append]; omega)) | decide),trivial⟩,⟨tt,⟨⟨trivial,(h1)⟩,⟨tt,⟨tt,⟨tt,⟨tt,⟨⟨(by first | omega | (rw [adr_eq]; omega) | exact iAnd_nn _ _ | exact iSub_nn _ _ | exact part1_le (by omega) (by first | omega | (simp only [List.length_append]; omega)) | decide),trivial⟩,⟨tt,⟨tt,⟨tt,trivial⟩⟩⟩⟩⟩⟩⟩⟩⟩⟩⟩⟩⟩⟩⟩⟩⟩) ?_
   refine Tri.cond (x:=(decide ((p2:Int) > (p0.length:Int)))) (by kernel_rfl) (fun h2 => ?_) (fun h2 => ?_)
   ·
    have h2':=of_decide_eq_true h2
    refine Tri.seq ?_
    refine Tri.seq_region [] none [24,0] [0] (TT∧(TT∧True))
      ([(24,.sc (.b true)),(0,.sc (.p 0 0))],[(0,.cells [.ro .u8 p0,.b p1])])
      336 (by kernel_rfl) rfl (by kernel_rfl) (⟨tt,⟨tt,trivial⟩⟩) ?_
    refine Tri.cond_true (by kernel_rfl) ?_
    refine Tri.region' [] none [] [0] (TT∧(TT∧(TT∧(TT∧((((1 < 2)∧(1=1))∧True)∧(TT∧(TT∧((((0 < 2)∧(1=1))∧True)∧True))))))))
      ([],[(0,.cells [.nils,.b true])])
      464 (by kernel_rfl) rfl (by kernel_rfl) (⟨tt,⟨tt,⟨tt,⟨tt,⟨⟨⟨(by first | omega | (rw [adr_eq]; omega) | exact iAnd_nn _ _ | exact iSub_nn _ _ | exact part1_le (by omega) (by first | omega | (simp only [List.length_append]; omega)) | decide),(rfl)⟩,trivial⟩,⟨tt,⟨tt,⟨⟨⟨(by first | omega | (rw [adr_eq]; omega) | exact iAnd_nn _ _ | exact iSub_nn _ _ | exact part1_le (by omega) (by first | omega | (simp only [List.length_append]; omega)) | decide),(rfl)⟩,trivial⟩,trivial⟩⟩⟩⟩⟩⟩⟩⟩) ?_
    change Tri _ _ _ _ _ _
    refine Tri.seq_region [] none [4] [0] (TT∧True)
      ([(4,.sc (.nils))],[(0,.cells [.nils,.b true])])
      480 (by kernel_rfl) rfl (by kernel_rfl) (⟨tt,trivial⟩) ?_
    refine Tri.sub (Sub.nilRo 4 .u8 (by kernel_rfl)) ?_
    refine Tri.sub (Sub.nilCell (l:=[.nils,.b true]) 0 0 .u8 (by kernel_rfl) (by kernel_rfl)) ?_
    refine Tri.ret ?_
    repeat (first | refine thenP_ret ?_ | refine blkP_ret ?_ | refine countP_ret ?_ | refine joinP_ret ?_ | refine iterP_ret ?_)
    refine endP.conv (r':=⟨.sc (.ro .u8 ([]:List Int)),[some (.cells [.ro .u8 ([]:List Int),.b true])]⟩) (by simp only [FwtakeF,FwtakeF_1,FwtakeF_2,h1,h2,sel_true,sel_false]) ?_
    exact endP.ret [(0,0)] TT (by kernel_rfl) (by kernel_rfl) tt
   ·
    have h2':=of_decide_eq_false h2
    refine Tri.skip ?_
    change Tri _ _ _ _ _ _
    refine Tri.seq_region [] none [5,0,1] [0] (TT∧(TT∧(TT∧(((0 < 2)∧True)∧(TT∧(TT∧((((0:Int)≤0∧(0:Int)≤p2∧(p2:Int)≤p2∧(p2:Int)≤(p0.length:Int))∧True)∧(TT∧True))))))))
      ([(5,.sc (.ro .u8 ((p0.drop 0).take (((p2).toNat) - 0)))),(0,.sc (.p 0 0)),(1,.sc (.i .i64 p2))],[(0,.cells [.ro .u8 p0,.b p1])])
      432 (by kernel_rfl) rfl (by kernel_rfl) (⟨tt,⟨tt,⟨tt,⟨⟨(by first | omega | (rw [adr_eq]; omega) | exact iAnd_nn _ _ | exact iSub_nn _ _ | exact part1_le (by omega) (by first | omega | (simp only [List.length_append]; omega)) | decide),trivial⟩,⟨tt,⟨tt,⟨⟨(by first | omega | (rw [adr_eq]; omega) | exact iAnd_nn _ _ | exact iSub_nn _ _ | exact part1_le (by omega) (by first | omega | (simp only [List.length_append]; omega)) | decide),trivial⟩,⟨tt,trivial⟩⟩⟩⟩⟩⟩⟩⟩) ?_
    refine Tri.seq_region [] none [5] [0] (TT∧(TT∧(TT∧(TT∧(((0 < 2)∧True)∧(TT∧((((0:Int)≤p2∧(p2:Int)≤(p0.length:Int)∧(p0.length:Int)≤(p0.length:Int))∧True)∧(TT∧(TT∧((((0 < 2)∧(1=1))∧True)∧True))))))))))
      ([(5,.sc (.ro .u8 ((p0.drop 0).take (((p2).toNat) - 0))))],[(0,.cells [.ro .u8 ((p0.drop ((p2).toNat)).take (p0.length - ((p2).toNat))),.b p1])])
      592 (by kernel_rfl) rfl (by kernel_rfl) (⟨tt,⟨tt,⟨tt,⟨tt,⟨⟨(by first | omega | (rw [adr_eq]; omega) | exact iAnd_nn _ _ | exact iSub_nn _ _ | exact part1_le (by omega) (by first | omega | (simp only [List.length_append]; omega)) | decide),trivial⟩,⟨tt,⟨⟨(by first | omega | (rw [adr_eq]; omega) | exact iAnd_nn _ _ | exact iSub_nn _ _ | exact part1_le (by omega) (by first | omega | (simp only [List.length_append]; omega)) | decide),trivial⟩,⟨tt,⟨tt,⟨⟨⟨(by first | omega | (rw [adr_eq]; omega) | exact iAnd_nn _ _ | exact iSub_nn _ _ | exact part1_le (by omega) (by first | omega | (simp only [List.length_append]; omega)) | decide),(rfl)⟩,trivial⟩,trivial⟩⟩⟩⟩⟩⟩⟩⟩⟩⟩) ?_
    refine Tri.seq_region [] none [4] [0] (TT∧(TT∧True))
      ([(4,.sc (.ro .u8 ((p0.drop 0).take (((p2).toNat) - 0))))],[(0,.cells [.ro .u8 ((p0.drop ((p2).toNat)).take (p0.length - ((p2).toNat))),.b p1])])
      624 (by kernel_rfl) rfl (by kernel_rfl) (⟨tt,⟨tt,trivial⟩⟩) ?_
    refine Tri.ret ?_
    repeat (first | refine thenP_ret ?_ | refine blkP_ret ?_ | refine countP_ret ?_ | refine joinP_ret ?_ | refine iterP_ret ?_)
    refine endP.conv (r':=⟨.sc (.ro .u8 ((p0.drop 0).take (((p2).toNat) - 0))),[some (.cells [.ro .u8 ((p0.drop ((p2).toNat)).take (p0.length - ((p2).toNat))),.b p1])]⟩) (by simp only [FwtakeF,FwtakeF_1,FwtakeF_2,h1,h2,sel_true,sel_false]) ?_
    exact endP.ret [(0,0)] TT (by kernel_rfl) (by kernel_rfl) tt
theorem le_FwtakeF (p0:List Int) (p1:Bool) (p2:Int):(FwtakeF p0 p1 p2).length≤p2.toNat:=by
 unfold FwtakeF
 cases p1
 ·simp only [sel_false]
  cases (decide ((p2:Int) > (p0.length:Int)))
  ·simp only [sel_false,List.length_take,List.length_drop]; omega
  ·simp only [sel_true,List.length_nil]; omega
 ·simp only [sel_true,List.length_nil]; omega
noncomputable def FwByte (p0:List Int) (p1:Bool):Int :=
 (sel p1 0 (sel (decide ((1:Int) > (p0.length:Int))) 0 ((FwtakeOk p0 p1 1).getD 0 0)))
noncomputable def FwByte_1 (p0:List Int) (p1:Bool):List Int :=
 (sel p1 ([]:List Int) (sel (decide ((1:Int) > (p0.length:Int))) ([]:List Int) (FwtakeOk_1 p0 p1 1)))
noncomputable def FwByte_2 (p0:List Int) (p1:Bool):Bool :=
 (sel p1 true (sel (decide ((1:Int) > (p0.length:Int))) true p1))
noncomputable def SwByte:List AV→List Blk→Option (Prop × Ret)
 | [.sc (.p 0 0)],[.cells [.ro .u8 p0,.b p1]] => some (True,⟨.sc (.i .u8 (FwByte p0 p1)),[some (.cells [.ro .u8 (FwByte_1 p0 p1),.b (FwByte_2 p0 p1)])]⟩)
 | _,_ => none
noncomputable def BwByte:Bs:={ P:=Go.Proofs.Try.prog,G:=noG,tab:=tabOf [⟨42,48,[.io,.val],[],[0],⟨1,0,SwtakeBad⟩,false⟩,⟨42,144,[.io,.val],[],[0],⟨1,0,SwtakeNo⟩,false⟩,⟨42,240,[.io,.val],[],[0],⟨1,0,SwtakeOk⟩,false⟩],n:=11 }
theorem BwByte.ok:BwByte.Ok:=⟨tabOk (P:=Go.Proofs.Try.prog) (G:=noG) (l:=[⟨42,48,[.io,.val],[],[0],⟨1,0,SwtakeBad⟩,false⟩,⟨42,144,[.io,.val],[],[0],⟨1,0,SwtakeNo⟩,false⟩,⟨42,240,[.io,.val],[],[0],⟨1,0,SwtakeOk⟩,false⟩]) (And.intro KwtakeBad (And.intro KwtakeNo (And.intro KwtakeOk True.intro))),mixed⟩
theorem KwByte:Known Go.Proofs.Try.prog noG 32 ⟨1,0,SwByte⟩:=by
 refine Known.walk (B:=BwByte) (fn:=Go.Proofs.Try.f32) BwByte.ok (by kernel_rfl) rfl (by kernel_rfl) (by kernel_rfl) (by decide) (by decide) ?_
 ·intro E args ks C r h hC hlen
  simp only at h
  unfold SwByte at h
  split at h
  rotate_left
  ·cases h
  rename_i p0 p1
  cases h
  simp only [lens] at hlen
  refine ⟨show 1≤11 from by decide,?_⟩
  refine Tri.sub (Sub.of_eq (show _=([(0,.sc (.p 0 0))],[(0,.cells [.ro .u8 p0,.b p1])]) from rfl)) ?_
  refine Tri.seq_region [] none [0] [0] (TT∧True)
    ([(0,.sc (.p 0 0))],[(0,.cells [.ro .u8 p0,.b p1])])
    32 (by kernel_rfl) rfl (by kernel_rfl) (⟨tt,trivial⟩) ?_
  refine Tri.seq ?_
  refine Tri.split p1 (fun h1 => ?_) (fun h1 => ?_)
  ·
   refine Tri.seq_region [] none [3] [0] (TT∧(((True∧((p1=true)∧True))∧True)∧(TT∧True)))
     ([(3,.sc (.nils))],[(0,.cells [.ro .u8 ([]:List Int),.b true])])
     80 (by kernel_rfl) rfl (by kernel_rfl) (⟨tt,⟨⟨⟨trivial,⟨(h1),trivial⟩⟩,trivial⟩,⟨tt,trivial⟩⟩⟩) ?_
   refine Tri.seq_region [] none [7,3] [0] (TT∧(TT∧True))
     ([(7,.sc (.b false)),(3,.sc (.nils))],[(0,.cells [.ro .u8 ([]:List Int),.b true])])
     112 (by kernel_rfl) rfl (by kernel_rfl) (⟨tt,⟨tt,trivial⟩⟩) ?_
   refine Tri.cond_false (by kernel_rfl) ?_
   refine Tri.skip ?_
   change Tri _ _ _ _ _ _
   refine Tri.seq_region [] none [2] [0] (TT∧True)
     ([(2,.sc (.i .u8 0))],[(0,.cells [.ro .u8 ([]:List Int),.b true])])
     128 (by kernel_rfl) rfl (by kernel_rfl) (⟨tt,trivial⟩) ?_
   refine Tri.ret ?_
   repeat (first | refine thenP_ret ?_ | refine blkP_ret ?_ | refine countP_ret ?_ | refine joinP_ret ?_ | refine iterP_ret ?_)
   refine endP.conv (r':=⟨.sc (.i .u8 0),[some (.cells [.ro .u8 ([]:List Int),.b true])]⟩) (by simp only [FwByte,FwByte_1,FwByte_2,h1,sel_true,sel_false]) ?_
   exact endP.ret [(0,0)] TT (by kernel_rfl) (by kernel_rfl) tt
  ·
   refine Tri.sub (Sub.up (U':=128) (by decide)) ?_
   refine Tri.split (decide ((1:Int) > (p0.length:Int))) (fun h2 => ?_) (fun h2 => ?_)
   ·
    have h2':=of_decide_eq_true h2
    refine Tri.seq_region [] none [3] [0] (TT∧(((True∧((p1=false)∧(((decide ((1:Int) > (p0.length:Int)))=true)∧True)))∧True)∧(TT∧True)))
      ([(3,.sc (.nils))],[(0,.cells [.ro .u8 ([]:List Int),.b true])])
      176 (by kernel_rfl) rfl (by kernel_rfl) (⟨tt,⟨⟨⟨trivial,⟨(h1),⟨(h2),trivial⟩⟩⟩,trivial⟩,⟨tt,trivial⟩⟩⟩) ?_
    refine Tri.seq_region [] none [7,3] [0] (TT∧(TT∧True))
      ([(7,.sc (.b false)),(3,.sc (.nils))],[(0,.cells [.ro .u8 ([]:List Int),.b true])])
      208 (by kernel_rfl) rfl (by kernel_rfl) (⟨tt,⟨tt,trivial⟩⟩) ?_
    refine Tri.cond_false (by kernel_rfl) ?_
    refine Tri.skip ?_
    change Tri _ _ _ _ _ _
    refine Tri.seq_region [] none [2] [0] (TT∧True)
      ([(2,.sc (.i .u8 0))],[(0,.cells [.ro .u8 ([]:List Int),.b true])])
      224 (by kernel_rfl) rfl (by kernel_rfl) (⟨tt,trivial⟩) ?_
    refine Tri.ret ?_
    repeat (first | refine thenP_ret ?_ | refine blkP_ret ?_ | refine countP_ret ?_ | refine joinP_ret ?_ | refine iterP_ret ?_)
    refine endP.conv (r':=⟨.sc (.i .u8 0),[some (.cells [.ro .u8 ([]:List Int),.b true])]⟩) (by simp only [FwByte,FwByte_1,FwByte_2,h1,h2,sel_true,sel_false]) ?_
    exact endP.ret [(0,0)] TT (by kernel_rfl) (by kernel_rfl) tt
   ·
    have h2':=of_decide_eq_false h2
    refine Tri.sub (Sub.up (U':=224) (by decide)) ?_
    refine Tri.seq_region [] none [3] [0] (TT∧(((True∧((p1=false)∧(((decide ((1:Int) > (p0.length:Int)))=false)∧((0:Int)≤1))))∧True)∧(TT∧True)))
      ([(3,.sc (.ro .u8 (FwtakeOk p0 p1 1)))],[(0,.cells [.ro .u8 (FwtakeOk_1 p0 p1 1),.b p1])])
      272 (by kernel_rfl) rfl (by kernel_rfl) (⟨tt,⟨⟨⟨trivial,⟨(h1),⟨(h2),(by first | omega | (have hq:=len_FwtakeOk (p0:=p0) (p1:=p1) (p2:=1) (by assumption) (by decide); omega) | decide)⟩⟩⟩,trivial⟩,⟨tt,trivial⟩⟩⟩) ?_
    refine Tri.seq_region [] none [7,3] [0] (TT∧(((0 < (FwtakeOk p0 p1 1).length)∧True)∧True))
      ([(7,.sc (.b true)),(3,.sc (.ro .u8 (FwtakeOk p0 p1 1)))],[(0,.cells [.ro .u8 (FwtakeOk_1 p0 p1 1),.b p1])])
      304 (by kernel_rfl) rfl (by kernel_rfl) (⟨tt,⟨⟨(by first | omega | (have hq:=len_FwtakeOk (p0:=p0) (p1:=p1) (p2:=1) (by assumption) (by decide); omega) | decide),trivial⟩,trivial⟩⟩) ?_
    refine Tri.cond_true (by kernel_rfl) ?_
    refine Tri.seq_region [] none [2] [0] (TT∧((((0:Int)≤0∧0 < ((FwtakeOk p0 p1 1).length:Int))∧True)∧(((0 < (FwtakeOk p0 p1 1).length)∧True)∧(TT∧True))))
      ([(2,.sc (.i .u8 ((FwtakeOk p0 p1 1).getD 0 0)))],[(0,.cells [.ro .u8 (FwtakeOk_1 p0 p1 1),.b p1])])
      368 (by kernel_rfl) rfl (by kernel_rfl) (⟨tt,⟨⟨(by first | omega | (have hq:=len_FwtakeOk (p0:=p0) (p1:=p1) (p2:=1) (by assumption) (by decide); omega) | decide),trivial⟩,⟨⟨(by first | omega | (have hq:=len_FwtakeOk (p0:=p0) (p1:=p1) (p2:=1) (by assumption) (by decide); omega) | decide),trivial⟩,⟨tt,trivial⟩⟩⟩⟩) ?_
    refine Tri.ret ?_
    repeat (first | refine thenP_ret ?_ | refine blkP_ret ?_ | refine countP_ret ?_ | refine joinP_ret ?_ | refine iterP_ret ?_)
    refine endP.conv (r':=⟨.sc (.i .u8 ((FwtakeOk p0 p1 1).getD 0 0)),[some (.cells [.ro .u8 (FwtakeOk_1 p0 p1 1),.b p1])]⟩) (by simp only [FwByte,FwByte_1,FwByte_2,h1,h2,sel_true,sel_false]) ?_
    exact endP.ret [(0,0)] TT (by kernel_rfl) (by kernel_rfl) tt
noncomputable def FwFlag (p0:List Int) (p1:Bool):Bool :=
 (((FwByte p0 p1):Int) != 0)
noncomputable def FwFlag_1 (p0:List Int) (p1:Bool):List Int :=
 (FwByte_1 p0 p1)
noncomputable def FwFlag_2 (p0:List Int) (p1:Bool):Bool :=
 (FwByte_2 p0 p1)
noncomputable def SwFlag:List AV→List Blk→Option (Prop × Ret)
 | [.sc (.p 0 0)],[.cells [.ro .u8 p0,.b p1]] => some (True,⟨.sc (.b (FwFlag p0 p1)),[some (.cells [.ro .u8 (FwFlag_1 p0 p1),.b (FwFlag_2 p0 p1)])]⟩)
 | _,_ => none
noncomputable def BwFlag:Bs:={ P:=Go.Proofs.Try.prog,G:=noG,tab:=tabOf [⟨32,48,[.io],[],[0],⟨1,0,SwByte⟩,false⟩],n:=6 }
theorem BwFlag.ok:BwFlag.Ok:=⟨tabOk (P:=Go.Proofs.Try.prog) (G:=noG) (l:=[⟨32,48,[.io],[],[0],⟨1,0,SwByte⟩,false⟩]) (And.intro KwByte True.intro),mixed⟩
theorem KwFlag:Known Go.Proofs.Try.prog noG 46 ⟨1,0,SwFlag⟩:=by
 refine Known.walk (B:=BwFlag) (fn:=Go.Proofs.Try.f46) BwFlag.ok (by kernel_rfl) rfl (by kernel_rfl) (by kernel_rfl) (by decide) (by decide) ?_
 ·intro E args ks C r h hC hlen
  simp only at h
  unfold SwFlag at h
  split at h
  rotate_left
  ·cases h
  rename_i p0 p1
  cases h
  simp only [lens] at hlen
  refine ⟨show 1≤6 from by decide,?_⟩
  refine Tri.sub (Sub.of_eq (show _=([(0,.sc (.p 0 0))],[(0,.cells [.ro .u8 p0,.b p1])]) from rfl)) ?_
  refine Tri.seq_region [] none [0] [0] (TT∧True)
    ([(0,.sc (.p 0 0))],[(0,.cells [.ro .u8 p0,.b p1])])
    32 (by kernel_rfl) rfl (by kernel_rfl) (⟨tt,trivial⟩) ?_
  refine Tri.seq_region [] none [2] [0] (TT∧((TT∧True)∧(TT∧(TT∧True))))
    ([(2,.sc (.b (((FwByte p0 p1):Int) != 0)))],[(0,.cells [.ro .u8 (FwByte_1 p0 p1),.b (FwByte_2 p0 p1)])])
    96 (by kernel_rfl) rfl (by kernel_rfl) (⟨tt,⟨⟨tt,trivial⟩,⟨tt,⟨tt,trivial⟩⟩⟩⟩) ?_
  refine Tri.ret ?_
  repeat (first | refine thenP_ret ?_ | refine blkP_ret ?_ | refine countP_ret ?_ | refine joinP_ret ?_ | refine iterP_ret ?_)
  exact endP.ret [(0,0)] TT (by kernel_rfl) (by kernel_rfl) tt
noncomputable def FwOk (p0:List Int) (p1:Bool):Bool :=
 (!p1)
noncomputable def SwOk:List AV→List Blk→Option (Prop × Ret)
 | [.sc (.p 0 0)],[.cells [.ro .u8 p0,.b p1]] => some (True,⟨.sc (.b (FwOk p0 p1)),[some (.cells [.ro .u8 p0,.b p1])]⟩)
 | _,_ => none
noncomputable def BwOk:Bs:={ P:=Go.Proofs.Try.prog,G:=noG,tab:=tabOf [],n:=12 }
theorem BwOk.ok:BwOk.Ok:=⟨tabOk (P:=Go.Proofs.Try.prog) (G:=noG) (l:=[]) True.intro,mixed⟩
theorem KwOk:Known Go.Proofs.Try.prog noG 36 ⟨1,0,SwOk⟩:=by
 refine Known.walk (B:=BwOk) (fn:=Go.Proofs.Try.f36) BwOk.ok (by kernel_rfl) rfl (by kernel_rfl) (by kernel_rfl) (by decide) (by decide) ?_
 ·intro E args ks C r h hC hlen
  simp only at h
  unfold SwOk at h
  split at h
  rotate_left
  ·cases h
  rename_i p0 p1
  cases h
  simp only [lens] at hlen
  refine ⟨show 1≤12 from by decide,?_⟩
  refine Tri.sub (Sub.of_eq (show _=([(0,.sc (.p 0 0))],[(0,.cells [.ro .u8 p0,.b p1])]) from rfl)) ?_
  refine Tri.seq_region [] none [0] [0] (TT∧True)
    ([(0,.sc (.p 0 0))],[(0,.cells [.ro .u8 p0,.b p1])])
    32 (by kernel_rfl) rfl (by kernel_rfl) (⟨tt,trivial⟩) ?_
  refine Tri.seq_region [] none [2] [0] (TT∧(TT∧(TT∧(TT∧(TT∧(TT∧(((1 < 2)∧True)∧(TT∧(TT∧(TT∧True))))))))))
    ([(2,.sc (.b (!p1)))],[(0,.cells [.ro .u8 p0,.b p1])])
    192 (by kernel_rfl) rfl (by kernel_rfl) (⟨tt,⟨tt,⟨tt,⟨tt,⟨tt,⟨tt,⟨⟨(by first | omega | (rw [adr_eq]; omega) | exact iAnd_nn _ _ | exact iSub_nn _ _ | exact part1_le (by omega) (by first | omega | (simp only [List.length_append]; omega)) | decide),trivial⟩,⟨tt,⟨tt,⟨tt,trivial⟩⟩⟩⟩⟩⟩⟩⟩⟩⟩) ?_
  refine Tri.ret ?_
  repeat (first | refine thenP_ret ?_ | refine blkP_ret ?_ | refine countP_ret ?_ | refine joinP_ret ?_ | refine iterP_ret ?_)
  exact endP.ret [(0,0)] TT (by kernel_rfl) (by kernel_rfl) tt
noncomputable def FwEnd (p0:List Int) (p1:Bool):Bool :=
 (sel (FwOk p0 p1) (((p0.length:Int):Int) == 0) false)
noncomputable def SwEnd:List AV→List Blk→Option (Prop × Ret)
 | [.sc (.p 0 0)],[.cells [.ro .u8 p0,.b p1]] => some (True,⟨.sc (.b (FwEnd p0 p1)),[some (.cells [.ro .u8 p0,.b p1])]⟩)
 | _,_ => none
noncomputable def BwEnd:Bs:={ P:=Go.Proofs.Try.prog,G:=noG,tab:=tabOf [⟨36,48,[.io],[],[0],⟨1,0,SwOk⟩,false⟩],n:=13 }
theorem BwEnd.ok:BwEnd.Ok:=⟨tabOk (P:=Go.Proofs.Try.prog) (G:=noG) (l:=[⟨36,48,[.io],[],[0],⟨1,0,SwOk⟩,false⟩]) (And.intro KwOk True.intro),mixed⟩
theorem KwEnd:Known Go.Proofs.Try.prog noG 44 ⟨1,0,SwEnd⟩:=by
 refine Known.walk (B:=BwEnd) (fn:=Go.Proofs.Try.f44) BwEnd.ok (by kernel_rfl) rfl (by kernel_rfl) (by kernel_rfl) (by decide) (by decide) ?_
 ·intro E args ks C r h hC hlen
  simp only at h
  unfold SwEnd at h
  split at h
  rotate_left
  ·cases h
  rename_i p0 p1
  cases h
  simp only [lens] at hlen
  refine ⟨show 1≤13 from by decide,?_⟩
  refine Tri.sub (Sub.of_eq (show _=([(0,.sc (.p 0 0))],[(0,.cells [.ro .u8 p0,.b p1])]) from rfl)) ?_
  refine Tri.seq_region [] none [0] [0] (TT∧True)
    ([(0,.sc (.p 0 0))],[(0,.cells [.ro .u8 p0,.b p1])])
    32 (by kernel_rfl) rfl (by kernel_rfl) (⟨tt,trivial⟩) ?_
  refine Tri.split (FwOk p0 p1) (fun h1 => ?_) (fun h1 => ?_)
  ·
   refine Tri.seq_region [(5,qb true)] none [2] [0] (TT∧((TT∧True)∧((True∧((FwOk p0 p1)=true))∧(TT∧(TT∧(TT∧(((0 < 2)∧True)∧(TT∧(TT∧(TT∧(TT∧True)))))))))))
     ([(2,.sc (.b (((p0.length:Int):Int) == 0)))],[(0,.cells [.ro .u8 p0,.b p1])])
     208 (by kernel_rfl) rfl (by kernel_rfl) (⟨tt,⟨⟨tt,trivial⟩,⟨⟨trivial,(h1)⟩,⟨tt,⟨tt,⟨tt,⟨⟨(by first | omega | (rw [adr_eq]; omega) | exact iAnd_nn _ _ | exact iSub_nn _ _ | exact part1_le (by omega) (by first | omega | (simp only [List.length_append]; omega)) | decide),trivial⟩,⟨tt,⟨tt,⟨tt,⟨tt,trivial⟩⟩⟩⟩⟩⟩⟩⟩⟩⟩⟩) ?_
   refine Tri.ret ?_
   repeat (first | refine thenP_ret ?_ | refine blkP_ret ?_ | refine countP_ret ?_ | refine joinP_ret ?_ | refine iterP_ret ?_)
   refine endP.conv (r':=⟨.sc (.b (((p0.length:Int):Int) == 0)),[some (.cells [.ro .u8 p0,.b p1])]⟩) (by simp only [FwEnd,h1,sel_true,sel_false]) ?_
   exact endP.ret [(0,0)] TT (by kernel_rfl) (by kernel_rfl) tt
  ·
   refine Tri.seq_region [(5,qb false)] none [2] [0] (TT∧((TT∧True)∧((True∧((FwOk p0 p1)=false))∧(TT∧(TT∧(TT∧(TT∧(TT∧(TT∧(TT∧(TT∧True)))))))))))
     ([(2,.sc (.b false))],[(0,.cells [.ro .u8 p0,.b p1])])
     208 (by kernel_rfl) rfl (by kernel_rfl) (⟨tt,⟨⟨tt,trivial⟩,⟨⟨trivial,(h1)⟩,⟨tt,⟨tt,⟨tt,⟨tt,⟨tt,⟨tt,⟨tt,⟨tt,trivial⟩⟩⟩⟩⟩⟩⟩⟩⟩⟩⟩) ?_
   refine Tri.ret ?_
   repeat (first | refine thenP_ret ?_ | refine blkP_ret ?_ | refine countP_ret ?_ | refine joinP_ret ?_ | refine iterP_ret ?_)
   refine endP.conv (r':=⟨.sc (.b false),[some (.cells [.ro .u8 p0,.b p1])]⟩) (by simp only [FwEnd,h1,sel_true,sel_false]) ?_
   exact endP.ret [(0,0)] TT (by kernel_rfl) (by kernel_rfl) tt
noncomputable def FwU32l0 (p0:List Int) (p1:Bool) (k0:Nat) (z0:Int):Int :=
 (iOr .u32 (iShl .u32 z0 8) (IntKind.wrap .u32 ((FwtakeF p0 p1 4).getD k0 0)))
noncomputable def FwU32 (p0:List Int) (p1:Bool):Int :=
 (itr (FwU32l0 p0 p1) ((FwtakeF p0 p1 4).length) 0)
noncomputable def FwU32_1 (p0:List Int) (p1:Bool):List Int :=
 (FwtakeF_1 p0 p1 4)
noncomputable def FwU32_2 (p0:List Int) (p1:Bool):Bool :=
 (FwtakeF_2 p0 p1 4)
noncomputable def SwU32:List AV→List Blk→Option (Prop × Ret)
 | [.sc (.p 0 0)],[.cells [.ro .u8 p0,.b p1]] => some (True,⟨.sc (.i .u32 (FwU32 p0 p1)),[some (.cells [.ro .u8 (FwU32_1 p0 p1),.b (FwU32_2 p0 p1)])]⟩)
 | _,_ => none
noncomputable def BwU32:Bs:={ P:=Go.Proofs.Try.prog,G:=noG,tab:=tabOf [⟨42,64,[.io,.val],[],[0],⟨1,0,SwtakeF⟩,false⟩],n:=20 }
theorem BwU32.ok:BwU32.Ok:=⟨tabOk (P:=Go.Proofs.Try.prog) (G:=noG) (l:=[⟨42,64,[.io,.val],[],[0],⟨1,0,SwtakeF⟩,false⟩]) (And.intro KwtakeF True.intro),mixed⟩
theorem KwU32:Known Go.Proofs.Try.prog noG 35 ⟨1,0,SwU32⟩:=by
 refine Known.walk (B:=BwU32) (fn:=Go.Proofs.Try.f35) BwU32.ok (by kernel_rfl) rfl (by kernel_rfl) (by kernel_rfl) (by decide) (by decide) ?_
 ·intro E args ks C r h hC hlen
  simp only at h
  unfold SwU32 at h
  split at h
  rotate_left
  ·cases h
  rename_i p0 p1
  cases h
  simp only [lens] at hlen
  have hf0:(FwtakeF p0 p1 4).length≤4:=le_FwtakeF p0 p1 4
  refine ⟨show 1≤20 from by decide,?_⟩
  refine Tri.sub (Sub.of_eq (show _=([(0,.sc (.p 0 0))],[(0,.cells [.ro .u8 p0,.b p1])]) from rfl)) ?_
  refine Tri.seq_region [] none [0] [0] (TT∧True)
    ([(0,.sc (.p 0 0))],[(0,.cells [.ro .u8 p0,.b p1])])
    32 (by kernel_rfl) rfl (by kernel_rfl) (⟨tt,trivial⟩) ?_
  refine Tri.seq_region [] none [3,0] [0] (TT∧True)
    ([(3,.sc (.i .u32 0)),(0,.sc (.p 0 0))],[(0,.cells [.ro .u8 p0,.b p1])])
    48 (by kernel_rfl) rfl (by kernel_rfl) (⟨tt,trivial⟩) ?_
  refine Tri.seq ?_
  refine Tri.seq_region [] none [9,8,7,3] [0] (TT∧(((True∧((0:Int)≤4))∧True)∧(TT∧(TT∧True))))
    ([(9,.sc (.i .i64 0)),(8,.sc (.i .i64 (((FwtakeF p0 p1 4).length:Nat):Int))),(7,.sc (.ro .u8 (FwtakeF p0 p1 4))),(3,.sc (.i .u32 0))],[(0,.cells [.ro .u8 (FwtakeF_1 p0 p1 4),.b (FwtakeF_2 p0 p1 4)])])
    112 (by kernel_rfl) rfl (by kernel_rfl) (⟨tt,⟨⟨⟨trivial,(by first | omega | (rw [adr_eq]; omega) | exact iAnd_nn _ _ | exact iSub_nn _ _ | exact part1_le (by omega) (by first | omega | (simp only [List.length_append]; omega)) | decide)⟩,trivial⟩,⟨tt,⟨tt,trivial⟩⟩⟩⟩) ?_
  refine Tri.block ?_
  refine Tri.count 112 ((FwtakeF p0 p1 4).length) (FwU32l0 p0 p1) 0 (fun k0 z0 => True) (fun k0 z0 => ([(9,.sc (.i .i64 (k0:Int))),(8,.sc (.i .i64 (((FwtakeF p0 p1 4).length:Nat):Int))),(7,.sc (.ro .u8 (FwtakeF p0 p1 4))),(3,.sc (.i .u32 z0))],[(0,.cells [.ro .u8 (FwtakeF_1 p0 p1 4),.b (FwtakeF_2 p0 p1 4)])])) trivial (Sub.of_eq (by kernel_rfl)) ?_
  intro k0 z0 hk0 hz0 hJ0
  refine Tri.seq_region [] none [10,9,8,7,3] [0] (TT∧True)
    ([(10,.sc (.b (decide (((k0:Int):Int) < (((FwtakeF p0 p1 4).length:Nat):Int))))),(9,.sc (.i .i64 (k0:Int))),(8,.sc (.i .i64 (((FwtakeF p0 p1 4).length:Nat):Int))),(7,.sc (.ro .u8 (FwtakeF p0 p1 4))),(3,.sc (.i .u32 z0))],[(0,.cells [.ro .u8 (FwtakeF_1 p0 p1 4),.b (FwtakeF_2 p0 p1 4)])])
    128 (by kernel_rfl) rfl (by kernel_rfl) (⟨tt,trivial⟩) ?_
  refine Tri.seq ?_
  refine Tri.cond (x:=(decide (((k0:Int):Int) < (((FwtakeF p0 p1 4).length:Nat):Int)))) (by kernel_rfl) (fun h1 => ?_) (fun h1 => ?_)
  ·
   have h1':=of_decide_eq_true h1
   refine Tri.skip ?_
   change Tri _ _ _ _ _ _
   refine Tri.seq ?_
   refine Tri.block ?_
   refine Tri.seq_region [] none [5,9,8,7,3] [0] ((((0:Int)≤(k0:Int)∧(k0:Int) < ((FwtakeF p0 p1 4).length:Int))∧True)∧(((k0 < (FwtakeF p0 p1 4).length)∧True)∧(TT∧True)))
     ([(5,.sc (.i .u8 ((FwtakeF p0 p1 4).getD k0 0))),(9,.sc (.i .i64 (k0:Int))),(8,.sc (.i .i64 (((FwtakeF p0 p1 4).length:Nat):Int))),(7,.sc (.ro .u8 (FwtakeF p0 p1 4))),(3,.sc (.i .u32 z0))],[(0,.cells [.ro .u8 (FwtakeF_1 p0 p1 4),.b (FwtakeF_2 p0 p1 4)])])
     176 (by kernel_rfl) rfl (by kernel_rfl) (⟨⟨(by first | omega | (rw [adr_eq]; omega) | exact iAnd_nn _ _ | exact iSub_nn _ _ | exact part1_le (by omega) (by first | omega | (simp only [List.length_append]; omega)) | decide),trivial⟩,⟨⟨(by first | omega | (rw [adr_eq]; omega) | exact iAnd_nn _ _ | exact iSub_nn _ _ | exact part1_le (by omega) (by first | omega | (simp only [List.length_append]; omega)) | decide),trivial⟩,⟨tt,trivial⟩⟩⟩) ?_
   refine Tri.region' [] none [3,9,8,7] [0] (TT∧((((0:Int)≤8)∧True)∧(TT∧(TT∧(TT∧(TT∧True))))))
     ([(3,.sc (.i .u32 (iOr .u32 (iShl .u32 z0 8) (IntKind.wrap .u32 ((FwtakeF p0 p1 4).getD k0 0))))),(9,.sc (.i .i64 (k0:Int))),(8,.sc (.i .i64 (((FwtakeF p0 p1 4).length:Nat):Int))),(7,.sc (.ro .u8 (FwtakeF p0 p1 4)))],[(0,.cells [.ro .u8 (FwtakeF_1 p0 p1 4),.b (FwtakeF_2 p0 p1 4)])])
     272 (by kernel_rfl) rfl (by kernel_rfl) (⟨tt,⟨⟨(by first | omega | (rw [adr_eq]; omega) | exact iAnd_nn _ _ | exact iSub_nn _ _ | exact part1_le (by omega) (by first | omega | (simp only [List.length_append]; omega)) | decide),trivial⟩,⟨tt,⟨tt,⟨tt,⟨tt,trivial⟩⟩⟩⟩⟩⟩) ?_
   change Tri _ _ _ _ _ _
   refine Tri.region' [(18,qi ((k0 + 1:Nat):Int))] none [9,3,8,7] [0] ((True∧((iAdd .i64 (k0:Int) 1)=((k0 + 1:Nat):Int)))∧(TT∧True))
     ([(9,.sc (.i .i64 ((k0 + 1:Nat):Int))),(3,.sc (.i .u32 (iOr .u32 (iShl .u32 z0 8) (IntKind.wrap .u32 ((FwtakeF p0 p1 4).getD k0 0))))),(8,.sc (.i .i64 (((FwtakeF p0 p1 4).length:Nat):Int))),(7,.sc (.ro .u8 (FwtakeF p0 p1 4)))],[(0,.cells [.ro .u8 (FwtakeF_1 p0 p1 4),.b (FwtakeF_2 p0 p1 4)])])
     304 (by kernel_rfl) rfl (by kernel_rfl) (⟨⟨trivial,(iAdd_nat (a:=k0) (b:=1) (by omega))⟩,⟨tt,trivial⟩⟩) ?_
   repeat (refine blkP_normal ?_)
   refine countP_normal (by omega) trivial ?_
   exact Sub.ren (ns:=[(0,0)]) (kf:=[9,8,7,3]) (by kernel_rfl) (by kernel_rfl)
  ·
   have h1':=of_decide_eq_false h1
   refine Tri.exit ?_
   have hend0:k0=((FwtakeF p0 p1 4).length):=by (have:=of_decide_eq_false h1; omega)
   subst hend0; subst hz0
   change Tri _ _ _ _ _ _
   refine Tri.seq_region [] none [2] [0] (TT∧(TT∧True))
     ([(2,.sc (.i .u32 (itr (FwU32l0 p0 p1) ((FwtakeF p0 p1 4).length) 0)))],[(0,.cells [.ro .u8 (FwtakeF_1 p0 p1 4),.b (FwtakeF_2 p0 p1 4)])])
     160 (by kernel_rfl) rfl (by kernel_rfl) (⟨tt,⟨tt,trivial⟩⟩) ?_
   refine Tri.ret ?_
   repeat (first | refine thenP_ret ?_ | refine blkP_ret ?_ | refine countP_ret ?_ | refine joinP_ret ?_ | refine iterP_ret ?_)
   exact endP.ret [(0,0)] TT (by kernel_rfl) (by kernel_rfl) tt
theorem in_FwU32 (p0:List Int) (p1:Bool):0≤FwU32 p0 p1∧FwU32 p0 p1 < 4294967296:=by
 have h0:∀ n,0≤itr (FwU32l0 p0 p1) n 0∧itr (FwU32l0 p0 p1) n 0 < 4294967296:=by
  intro n
  cases n with
  | zero => rw [itr_zero]; decide
  | succ k => rw [itr_succ]; unfold FwU32l0 iOr; rw [wrap_u32]; omega
 exact h0 _
theorem nn_FwU32 (p0:List Int) (p1:Bool):0≤IntKind.wrap .i64 (FwU32 p0 p1):=by
 have:=in_FwU32 p0 p1
 rw [wrap_small (by omega) (by omega)]
 exact this.1
noncomputable def FwText (p0:List Int) (p1:Bool):ByteArray :=
 (sel (decide (((FwU32 p0 p1):Int) > 16384)) (⟨#[]⟩:ByteArray) (bytesOf (FwtakeF (FwU32_1 p0 p1) (FwU32_2 p0 p1) (IntKind.wrap .i64 (FwU32 p0 p1)))))
noncomputable def FwText_1 (p0:List Int) (p1:Bool):List Int :=
 (sel (decide (((FwU32 p0 p1):Int) > 16384)) (FwtakeF_1 (FwU32_1 p0 p1) (FwU32_2 p0 p1) 1073741824) (FwtakeF_1 (FwU32_1 p0 p1) (FwU32_2 p0 p1) (IntKind.wrap .i64 (FwU32 p0 p1))))
noncomputable def FwText_2 (p0:List Int) (p1:Bool):Bool :=
 (sel (decide (((FwU32 p0 p1):Int) > 16384)) (FwtakeF_2 (FwU32_1 p0 p1) (FwU32_2 p0 p1) 1073741824) (FwtakeF_2 (FwU32_1 p0 p1) (FwU32_2 p0 p1) (IntKind.wrap .i64 (FwU32 p0 p1))))
noncomputable def SwText:List AV→List Blk→Option (Prop × Ret)
 | [.sc (.p 0 0)],[.cells [.ro .u8 p0,.b p1]] => some (True,⟨.sc (.s (FwText p0 p1)),[some (.cells [.ro .u8 (FwText_1 p0 p1),.b (FwText_2 p0 p1)])]⟩)
 | _,_ => none
noncomputable def BwText:Bs:={ P:=Go.Proofs.Try.prog,G:=noG,tab:=tabOf [⟨35,48,[.io],[],[0],⟨1,0,SwU32⟩,false⟩,⟨42,128,[.io,.val],[],[0],⟨1,0,SwtakeF⟩,false⟩,⟨42,160,[.io,.val],[],[0],⟨1,0,SwtakeF⟩,false⟩],n:=15 }
theorem BwText.ok:BwText.Ok:=⟨tabOk (P:=Go.Proofs.Try.prog) (G:=noG) (l:=[⟨35,48,[.io],[],[0],⟨1,0,SwU32⟩,false⟩,⟨42,128,[.io,.val],[],[0],⟨1,0,SwtakeF⟩,false⟩,⟨42,160,[.io,.val],[],[0],⟨1,0,SwtakeF⟩,false⟩]) (And.intro KwU32 (And.intro KwtakeF (And.intro KwtakeF True.intro))),mixed⟩
theorem KwText:Known Go.Proofs.Try.prog noG 43 ⟨1,0,SwText⟩:=by
 refine Known.walk (B:=BwText) (fn:=Go.Proofs.Try.f43) BwText.ok (by kernel_rfl) rfl (by kernel_rfl) (by kernel_rfl) (by decide) (by decide) ?_
 ·intro E args ks C r h hC hlen
  simp only at h
  unfold SwText at h
  split at h
  rotate_left
  ·cases h
  rename_i p0 p1
  cases h
  simp only [lens] at hlen
  refine ⟨show 1≤15 from by decide,?_⟩
  refine Tri.sub (Sub.of_eq (show _=([(0,.sc (.p 0 0))],[(0,.cells [.ro .u8 p0,.b p1])]) from rfl)) ?_
  refine Tri.seq_region [] none [0] [0] (TT∧True)
    ([(0,.sc (.p 0 0))],[(0,.cells [.ro .u8 p0,.b p1])])
    32 (by kernel_rfl) rfl (by kernel_rfl) (⟨tt,trivial⟩) ?_
  refine Tri.seq_region [] none [3,0] [0] (TT∧((TT∧True)∧(TT∧True)))
    ([(3,.sc (.i .u32 (FwU32 p0 p1))),(0,.sc (.p 0 0))],[(0,.cells [.ro .u8 (FwU32_1 p0 p1),.b (FwU32_2 p0 p1)])])
    80 (by kernel_rfl) rfl (by kernel_rfl) (⟨tt,⟨⟨tt,trivial⟩,⟨tt,trivial⟩⟩⟩) ?_
  refine Tri.seq ?_
  refine Tri.seq_region [] none [7,3,0] [0] (TT∧(TT∧True))
    ([(7,.sc (.b (decide (((FwU32 p0 p1):Int) > 16384)))),(3,.sc (.i .u32 (FwU32 p0 p1))),(0,.sc (.p 0 0))],[(0,.cells [.ro .u8 (FwU32_1 p0 p1),.b (FwU32_2 p0 p1)])])
    112 (by kernel_rfl) rfl (by kernel_rfl) (⟨tt,⟨tt,trivial⟩⟩) ?_
  refine Tri.cond (x:=(decide (((FwU32 p0 p1):Int) > 16384))) (by kernel_rfl) (fun h1 => ?_) (fun h1 => ?_)
  ·
   have h1':=of_decide_eq_true h1
   refine Tri.seq_region [] none [] [0] (TT∧(((True∧((0:Int)≤1073741824))∧True)∧True))
     ([],[(0,.cells [.ro .u8 (FwtakeF_1 (FwU32_1 p0 p1) (FwU32_2 p0 p1) 1073741824),.b (FwtakeF_2 (FwU32_1 p0 p1) (FwU32_2 p0 p1) 1073741824)])])
     144 (by kernel_rfl) rfl (by kernel_rfl) (⟨tt,⟨⟨⟨trivial,(by first | omega | exact nn_FwU32 _ _ | decide)⟩,trivial⟩,trivial⟩⟩) ?_
   refine Tri.seq_region [] none [2] [0] (TT∧True)
     ([(2,.sc (.s (⟨#[]⟩:ByteArray)))],[(0,.cells [.ro .u8 (FwtakeF_1 (FwU32_1 p0 p1) (FwU32_2 p0 p1) 1073741824),.b (FwtakeF_2 (FwU32_1 p0 p1) (FwU32_2 p0 p1) 1073741824)])])
     160 (by kernel_rfl) rfl (by kernel_rfl) (⟨tt,trivial⟩) ?_
   refine Tri.ret ?_
   repeat (first | refine thenP_ret ?_ | refine blkP_ret ?_ | refine countP_ret ?_ | refine joinP_ret ?_ | refine iterP_ret ?_)
   refine endP.conv (r':=⟨.sc (.s (⟨#[]⟩:ByteArray)),[some (.cells [.ro .u8 (FwtakeF_1 (FwU32_1 p0 p1) (FwU32_2 p0 p1) 1073741824),.b (FwtakeF_2 (FwU32_1 p0 p1) (FwU32_2 p0 p1) 1073741824)])]⟩) (by simp only [FwText,FwText_1,FwText_2,h1,sel_true,sel_false]) ?_
   exact endP.ret [(0,0)] TT (by kernel_rfl) (by kernel_rfl) tt
  ·
   have h1':=of_decide_eq_false h1
   refine Tri.skip ?_
   change Tri _ _ _ _ _ _
   refine Tri.seq_region [] none [2] [0] (TT∧(TT∧(TT∧(((True∧((0:Int)≤(IntKind.wrap .i64 (FwU32 p0 p1))))∧True)∧(TT∧(TT∧True))))))
     ([(2,.sc (.s (bytesOf (FwtakeF (FwU32_1 p0 p1) (FwU32_2 p0 p1) (IntKind.wrap .i64 (FwU32 p0 p1))))))],[(0,.cells [.ro .u8 (FwtakeF_1 (FwU32_1 p0 p1) (FwU32_2 p0 p1) (IntKind.wrap .i64 (FwU32 p0 p1))),.b (FwtakeF_2 (FwU32_1 p0 p1) (FwU32_2 p0 p1) (IntKind.wrap .i64 (FwU32 p0 p1)))])])
     208 (by kernel_rfl) rfl (by kernel_rfl) (⟨tt,⟨tt,⟨tt,⟨⟨⟨trivial,(by first | omega | exact nn_FwU32 _ _ | decide)⟩,trivial⟩,⟨tt,⟨tt,trivial⟩⟩⟩⟩⟩⟩) ?_
   refine Tri.ret ?_
   repeat (first | refine thenP_ret ?_ | refine blkP_ret ?_ | refine countP_ret ?_ | refine joinP_ret ?_ | refine iterP_ret ?_)
   refine endP.conv (r':=⟨.sc (.s (bytesOf (FwtakeF (FwU32_1 p0 p1) (FwU32_2 p0 p1) (IntKind.wrap .i64 (FwU32 p0 p1))))),[some (.cells [.ro .u8 (FwtakeF_1 (FwU32_1 p0 p1) (FwU32_2 p0 p1) (IntKind.wrap .i64 (FwU32 p0 p1))),.b (FwtakeF_2 (FwU32_1 p0 p1) (FwU32_2 p0 p1) (IntKind.wrap .i64 (FwU32 p0 p1)))])]⟩) (by simp only [FwText,FwText_1,FwText_2,h1,sel_true,sel_false]) ?_
   exact endP.ret [(0,0)] TT (by kernel_rfl) (by kernel_rfl) tt
theorem size_FwText (p0:List Int) (p1:Bool):(FwText p0 p1).size≤16384:=by
 unfold FwText
 cases h:(decide (((FwU32 p0 p1):Int) > 16384))
 ·have h0:=of_decide_eq_false h
  have h1:=in_FwU32 p0 p1
  have h2:=le_FwtakeF (FwU32_1 p0 p1) (FwU32_2 p0 p1) (IntKind.wrap .i64 (FwU32 p0 p1))
  rw [wrap_small (by omega) (by omega)] at h2 ⊢
  rw [sel_false]
  have h3:∀ xs:List Int,(bytesOf xs).size=xs.length:=fun xs => by simp [bytesOf,ByteArray.size]
  rw [h3]
  omega
 ·rw [sel_true]; decide
end Go.Vm
set_option linter.unusedVariables false
set_option linter.unusedSimpArgs false
set_option maxRecDepth 4000
namespace Go.Vm
open Go
noncomputable def FwcTake (p0:List Int) (p1:Int) (p2:Bool) (p3:Int):List Int :=
 (sel p2 ([]:List Int) (sel (decide ((p3:Int) < 0)) ([]:List Int) (sel (decide ((p3:Int) > (iSub .i64 (p0.length:Int) p1))) ([]:List Int) ((p0.drop (((iSub .i64 (iAdd .i64 p1 p3) p3)).toNat)).take ((((iAdd .i64 p1 p3)).toNat) - (((iSub .i64 (iAdd .i64 p1 p3) p3)).toNat))))))
noncomputable def FwcTake_1 (p0:List Int) (p1:Int) (p2:Bool) (p3:Int):Int :=
 (sel p2 p1 (sel (decide ((p3:Int) < 0)) p1 (sel (decide ((p3:Int) > (iSub .i64 (p0.length:Int) p1))) p1 (iAdd .i64 p1 p3))))
noncomputable def FwcTake_2 (p0:List Int) (p1:Int) (p2:Bool) (p3:Int):Bool :=
 (sel p2 true (sel (decide ((p3:Int) < 0)) true (sel (decide ((p3:Int) > (iSub .i64 (p0.length:Int) p1))) true p2)))
noncomputable def SwcTake:List AV→List Blk→Option (Prop × Ret)
 | [.sc (.p 0 0),.sc (.i .i64 p3)],[.cells [.ro .u8 p0,.i .i64 p1,.b p2]] => some ((p0.length≤1000000000∧(0:Int)≤p1∧p1≤(p0.length:Int)),⟨.sc (.ro .u8 (FwcTake p0 p1 p2 p3)),[some (.cells [.ro .u8 p0,.i .i64 (FwcTake_1 p0 p1 p2 p3),.b (FwcTake_2 p0 p1 p2 p3)])]⟩)
 | _,_ => none
noncomputable def BwcTake:Bs:={ P:=Go.Proofs.Try.prog,G:=noG,tab:=tabOf [],n:=53 }
theorem BwcTake.ok:BwcTake.Ok:=⟨tabOk (P:=Go.Proofs.Try.prog) (G:=noG) (l:=[]) True.intro,mixed⟩
theorem KwcTake:Known Go.Proofs.Try.prog noG 39 ⟨1,0,SwcTake⟩:=by
 refine Known.walk (B:=BwcTake) (fn:=Go.Proofs.Try.f39) BwcTake.ok (by kernel_rfl) rfl (by kernel_rfl) (by kernel_rfl) (by decide) (by decide) ?_
 ·intro E args ks C r h hC hlen
  simp only at h
  unfold SwcTake at h
  split at h
  rotate_left
  ·cases h
  rename_i p3 p0 p1 p2
  cases h
  simp only [lens] at hlen
  refine ⟨show 2≤53 from by decide,?_⟩
  refine Tri.sub (Sub.of_eq (show _=([(0,.sc (.p 0 0)),(1,.sc (.i .i64 p3))],[(0,.cells [.ro .u8 p0,.i .i64 p1,.b p2])]) from rfl)) ?_
  refine Tri.seq_region [] none [0,1] [0] (TT∧True)
    ([(0,.sc (.p 0 0)),(1,.sc (.i .i64 p3))],[(0,.cells [.ro .u8 p0,.i .i64 p1,.b p2])])
    32 (by kernel_rfl) rfl (by kernel_rfl) (⟨tt,trivial⟩) ?_
  refine Tri.seq ?_
  refine Tri.split p2 (fun h1 => ?_) (fun h1 => ?_)
  ·
   refine Tri.seq_region [(9,qb true)] (some [0,1,3,7,15,31,63,127,255,511,511,1535,3583,7679,15871,511,33279,98815,229887,523775,1048575,2097151]) [26,0,1] [0] (TT∧(TT∧(TT∧(((2 < 3)∧True)∧((True∧(p2=true))∧(TT∧(TT∧(TT∧(TT∧(TT∧(TT∧(TT∧(TT∧(TT∧(TT∧(TT∧(TT∧(TT∧(TT∧(TT∧(TT∧(TT∧True))))))))))))))))))))))
     ([(26,.sc (.b true)),(0,.sc (.p 0 0)),(1,.sc (.i .i64 p3))],[(0,.cells [.ro .u8 p0,.i .i64 p1,.b p2])])
     384 (by kernel_rfl) rfl (by kernel_rfl) (⟨tt,⟨tt,⟨tt,⟨⟨(by first | omega | (have a1:iSub .i64 (p0.length:Int) p1=(p0.length:Int) - p1:=iSub_i64 (by omega) (by omega); have a2:iAdd .i64 p1 p3=p1 + p3:=iAdd_i64 (by omega) (by omega); have a3:iSub .i64 (iAdd .i64 p1 p3) p3=iAdd .i64 p1 p3 - p3:=iSub_i64 (by omega) (by omega); omega)),trivial⟩,⟨⟨trivial,(h1)⟩,⟨tt,⟨tt,⟨tt,⟨tt,⟨tt,⟨tt,⟨tt,⟨tt,⟨tt,⟨tt,⟨tt,⟨tt,⟨tt,⟨tt,⟨tt,⟨tt,⟨tt,trivial⟩⟩⟩⟩⟩⟩⟩⟩⟩⟩⟩⟩⟩⟩⟩⟩⟩⟩⟩⟩⟩⟩) ?_
   refine Tri.cond_true (by kernel_rfl) ?_
   refine Tri.seq_region [] none [] [0] (TT∧(TT∧(TT∧((((2 < 3)∧(1=1))∧True)∧True))))
     ([],[(0,.cells [.ro .u8 p0,.i .i64 p1,.b true])])
     448 (by kernel_rfl) rfl (by kernel_rfl) (⟨tt,⟨tt,⟨tt,⟨⟨⟨(by first | omega | (have a1:iSub .i64 (p0.length:Int) p1=(p0.length:Int) - p1:=iSub_i64 (by omega) (by omega); have a2:iAdd .i64 p1 p3=p1 + p3:=iAdd_i64 (by omega) (by omega); have a3:iSub .i64 (iAdd .i64 p1 p3) p3=iAdd .i64 p1 p3 - p3:=iSub_i64 (by omega) (by omega); omega)),(rfl)⟩,trivial⟩,trivial⟩⟩⟩⟩) ?_
   refine Tri.seq_region [] none [4] [0] (TT∧True)
     ([(4,.sc (.nils))],[(0,.cells [.ro .u8 p0,.i .i64 p1,.b true])])
     464 (by kernel_rfl) rfl (by kernel_rfl) (⟨tt,trivial⟩) ?_
   refine Tri.sub (Sub.nilRo 4 .u8 (by kernel_rfl)) ?_
   refine Tri.ret ?_
   repeat (first | refine thenP_ret ?_ | refine blkP_ret ?_ | refine countP_ret ?_ | refine joinP_ret ?_ | refine iterP_ret ?_)
   refine endP.conv (r':=⟨.sc (.ro .u8 ([]:List Int)),[some (.cells [.ro .u8 p0,.i .i64 p1,.b true])]⟩) (by simp only [FwcTake,FwcTake_1,FwcTake_2,h1,sel_true,sel_false]) ?_
   exact endP.ret [(0,0)] TT (by kernel_rfl) (by kernel_rfl) tt
  ·
   refine Tri.split (decide ((p3:Int) < 0)) (fun h2 => ?_) (fun h2 => ?_)
   ·
    have h2':=of_decide_eq_true h2
    refine Tri.seq_region [(9,qb false),(13,qb true)] (some [0,1,3,7,15,31,63,127,255,511,511,1535,3583,7679,15871,511,33279,98815,229887,523775,1048575,2097151]) [26,0,1] [0] (TT∧(TT∧(TT∧(((2 < 3)∧True)∧((True∧(p2=false))∧(TT∧(TT∧(TT∧((True∧((decide ((p3:Int) < 0))=true))∧(TT∧(TT∧(TT∧(TT∧(TT∧(TT∧(TT∧(TT∧(TT∧(TT∧(TT∧(TT∧(TT∧True))))))))))))))))))))))
      ([(26,.sc (.b true)),(0,.sc (.p 0 0)),(1,.sc (.i .i64 p3))],[(0,.cells [.ro .u8 p0,.i .i64 p1,.b p2])])
      384 (by kernel_rfl) rfl (by kernel_rfl) (⟨tt,⟨tt,⟨tt,⟨⟨(by first | omega | (have a1:iSub .i64 (p0.length:Int) p1=(p0.length:Int) - p1:=iSub_i64 (by omega) (by omega); have a2:iAdd .i64 p1 p3=p1 + p3:=iAdd_i64 (by omega) (by omega); have a3:iSub .i64 (iAdd .i64 p1 p3) p3=iAdd .i64 p1 p3 - p3:=iSub_i64 (by omega) (by omega); omega)),trivial⟩,⟨⟨trivial,(h1)⟩,⟨tt,⟨tt,⟨tt,⟨⟨trivial,(h2)⟩,⟨tt,⟨tt,⟨tt,⟨tt,⟨tt,⟨tt,⟨tt,⟨tt,⟨tt,⟨tt,⟨tt,⟨tt,⟨tt,trivial⟩⟩⟩⟩⟩⟩⟩⟩⟩⟩⟩⟩⟩⟩⟩⟩⟩⟩⟩⟩⟩⟩) ?_
    refine Tri.cond_true (by kernel_rfl) ?_
    refine Tri.seq_region [] none [] [0] (TT∧(TT∧(TT∧((((2 < 3)∧(1=1))∧True)∧True))))
      ([],[(0,.cells [.ro .u8 p0,.i .i64 p1,.b true])])
      448 (by kernel_rfl) rfl (by kernel_rfl) (⟨tt,⟨tt,⟨tt,⟨⟨⟨(by first | omega | (have a1:iSub .i64 (p0.length:Int) p1=(p0.length:Int) - p1:=iSub_i64 (by omega) (by omega); have a2:iAdd .i64 p1 p3=p1 + p3:=iAdd_i64 (by omega) (by omega); have a3:iSub .i64 (iAdd .i64 p1 p3) p3=iAdd .i64 p1 p3 - p3:=iSub_i64 (by omega) (by omega); omega)),(rfl)⟩,trivial⟩,trivial⟩⟩⟩⟩) ?_
    refine Tri.seq_region [] none [4] [0] (TT∧True)
      ([(4,.sc (.nils))],[(0,.cells [.ro .u8 p0,.i .i64 p1,.b true])])
      464 (by kernel_rfl) rfl (by kernel_rfl) (⟨tt,trivial⟩) ?_
    refine Tri.sub (Sub.nilRo 4 .u8 (by kernel_rfl)) ?_
    refine Tri.ret ?_
    repeat (first | refine thenP_ret ?_ | refine blkP_ret ?_ | refine countP_ret ?_ | refine joinP_ret ?_ | refine iterP_ret ?_)
    refine endP.conv (r':=⟨.sc (.ro .u8 ([]:List Int)),[some (.cells [.ro .u8 p0,.i .i64 p1,.b true])]⟩) (by simp only [FwcTake,FwcTake_1,FwcTake_2,h1,h2,sel_true,sel_false]) ?_
    exact endP.ret [(0,0)] TT (by kernel_rfl) (by kernel_rfl) tt
   ·
    have h2':=of_decide_eq_false h2
    refine Tri.seq_region [(9,qb false),(13,qb false)] (some [0,1,3,7,15,31,63,127,255,511,511,1535,3583,7679,15871,511,33279,98815,229887,523775,1048575,2097151]) [26,0,1] [0] (TT∧(TT∧(TT∧(((2 < 3)∧True)∧((True∧(p2=false))∧(TT∧(TT∧(TT∧((True∧((decide ((p3:Int) < 0))=false))∧(TT∧(TT∧(TT∧(TT∧(((0 < 3)∧True)∧(TT∧(TT∧(TT∧(TT∧(((1 < 3)∧True)∧(TT∧(TT∧(TT∧True))))))))))))))))))))))
      ([(26,.sc (.b (decide ((p3:Int) > (iSub .i64 (p0.length:Int) p1))))),(0,.sc (.p 0 0)),(1,.sc (.i .i64 p3))],[(0,.cells [.ro .u8 p0,.i .i64 p1,.b p2])])
      384 (by kernel_rfl) rfl (by kernel_rfl) (⟨tt,⟨tt,⟨tt,⟨⟨(by first | omega | (have a1:iSub .i64 (p0.length:Int) p1=(p0.length:Int) - p1:=iSub_i64 (by omega) (by omega); have a2:iAdd .i64 p1 p3=p1 + p3:=iAdd_i64 (by omega) (by omega); have a3:iSub .i64 (iAdd .i64 p1 p3) p3=iAdd .i64 p1 p3 - p3:=iSub_i64 (by omega) (by omega); omega)),trivial⟩,⟨⟨trivial,(h1)⟩,⟨tt,⟨tt,⟨tt,⟨⟨trivial,(h2)⟩,⟨tt,⟨tt,⟨tt,⟨tt,⟨⟨(by first | omega | (have a1:iSub .i64 (p0.length:Int) p1=(p0.length:Int) - p1:=iSub_i64 (by omega) (by omega); have a2:iAdd .i64 p1 p3=p1 + p3:=iAdd_i64 (by omega) (by omega); have a3:iSub .i64 (iAdd .i64 p1 p3) p3=iAdd .i64 p1 p3 - p3:=iSub_i64 (by omega) (by omega); omega)),trivial⟩,⟨tt,⟨tt,⟨tt,⟨tt,⟨⟨(by first | omega | (have a1:iSub .i64 (p0.length:Int) p1=(p0.length:Int) - p1:=iSub_i64 (by omega) (by omega); have a2:iAdd .i64 p1 p3=p1 + p3:=iAdd_i64 (by omega) (by omega); have a3:iSub .i64 (iAdd .i64 p1 p3) p3=iAdd .i64 p1 p3 - p3:=iSub_i64 (by omega) (by omega); omega)),trivial⟩,⟨tt,⟨tt,⟨tt,trivial⟩⟩⟩⟩⟩⟩⟩⟩⟩⟩⟩⟩⟩⟩⟩⟩⟩⟩⟩⟩⟩⟩) ?_
    refine Tri.cond (x:=(decide ((p3:Int) > (iSub .i64 (p0.length:Int) p1)))) (by kernel_rfl) (fun h3 => ?_) (fun h3 => ?_)
    ·
     have h3':=of_decide_eq_true h3
     refine Tri.seq_region [] none [] [0] (TT∧(TT∧(TT∧((((2 < 3)∧(1=1))∧True)∧True))))
       ([],[(0,.cells [.ro .u8 p0,.i .i64 p1,.b true])])
       448 (by kernel_rfl) rfl (by kernel_rfl) (⟨tt,⟨tt,⟨tt,⟨⟨⟨(by first | omega | (have a1:iSub .i64 (p0.length:Int) p1=(p0.length:Int) - p1:=iSub_i64 (by omega) (by omega); have a2:iAdd .i64 p1 p3=p1 + p3:=iAdd_i64 (by omega) (by omega); have a3:iSub .i64 (iAdd .i64 p1 p3) p3=iAdd .i64 p1 p3 - p3:=iSub_i64 (by omega) (by omega); omega)),(rfl)⟩,trivial⟩,trivial⟩⟩⟩⟩) ?_
     refine Tri.seq_region [] none [4] [0] (TT∧True)
       ([(4,.sc (.nils))],[(0,.cells [.ro .u8 p0,.i .i64 p1,.b true])])
       464 (by kernel_rfl) rfl (by kernel_rfl) (⟨tt,trivial⟩) ?_
     refine Tri.sub (Sub.nilRo 4 .u8 (by kernel_rfl)) ?_
     refine Tri.ret ?_
     repeat (first | refine thenP_ret ?_ | refine blkP_ret ?_ | refine countP_ret ?_ | refine joinP_ret ?_ | refine iterP_ret ?_)
     refine endP.conv (r':=⟨.sc (.ro .u8 ([]:List Int)),[some (.cells [.ro .u8 p0,.i .i64 p1,.b true])]⟩) (by simp only [FwcTake,FwcTake_1,FwcTake_2,h1,h2,h3,sel_true,sel_false]) ?_
     exact endP.ret [(0,0)] TT (by kernel_rfl) (by kernel_rfl) tt
    ·
     have h3':=of_decide_eq_false h3
     refine Tri.skip ?_
     change Tri _ _ _ _ _ _
     refine Tri.seq_region [] none [0,1] [0] (TT∧(TT∧(TT∧(((1 < 3)∧True)∧(TT∧(TT∧(TT∧(TT∧((((1 < 3)∧(1=1))∧True)∧True)))))))))
       ([(0,.sc (.p 0 0)),(1,.sc (.i .i64 p3))],[(0,.cells [.ro .u8 p0,.i .i64 (iAdd .i64 p1 p3),.b p2])])
       528 (by kernel_rfl) rfl (by kernel_rfl) (⟨tt,⟨tt,⟨tt,⟨⟨(by first | omega | (have a1:iSub .i64 (p0.length:Int) p1=(p0.length:Int) - p1:=iSub_i64 (by omega) (by omega); have a2:iAdd .i64 p1 p3=p1 + p3:=iAdd_i64 (by omega) (by omega); have a3:iSub .i64 (iAdd .i64 p1 p3) p3=iAdd .i64 p1 p3 - p3:=iSub_i64 (by omega) (by omega); omega)),trivial⟩,⟨tt,⟨tt,⟨tt,⟨tt,⟨⟨⟨(by first | omega | (have a1:iSub .i64 (p0.length:Int) p1=(p0.length:Int) - p1:=iSub_i64 (by omega) (by omega); have a2:iAdd .i64 p1 p3=p1 + p3:=iAdd_i64 (by omega) (by omega); have a3:iSub .i64 (iAdd .i64 p1 p3) p3=iAdd .i64 p1 p3 - p3:=iSub_i64 (by omega) (by omega); omega)),(rfl)⟩,trivial⟩,trivial⟩⟩⟩⟩⟩⟩⟩⟩⟩) ?_
     refine Tri.seq_region [] (some [0,1,3,7,0,16,48,112,0,496,0,1024,3072,7168,16383,32767]) [4] [0] (TT∧(TT∧(TT∧(((0 < 3)∧True)∧(TT∧(TT∧(TT∧(((1 < 3)∧True)∧(TT∧(TT∧(TT∧(TT∧(TT∧(((1 < 3)∧True)∧((((0:Int)≤(iSub .i64 (iAdd .i64 p1 p3) p3)∧((iSub .i64 (iAdd .i64 p1 p3) p3):Int)≤(iAdd .i64 p1 p3)∧(iAdd .i64 p1 p3)≤(p0.length:Int))∧True)∧(TT∧True))))))))))))))))
       ([(4,.sc (.ro .u8 ((p0.drop (((iSub .i64 (iAdd .i64 p1 p3) p3)).toNat)).take ((((iAdd .i64 p1 p3)).toNat) - (((iSub .i64 (iAdd .i64 p1 p3) p3)).toNat)))))],[(0,.cells [.ro .u8 p0,.i .i64 (iAdd .i64 p1 p3),.b p2])])
       784 (by kernel_rfl) rfl (by kernel_rfl) (⟨tt,⟨tt,⟨tt,⟨⟨(by first | omega | (have a1:iSub .i64 (p0.length:Int) p1=(p0.length:Int) - p1:=iSub_i64 (by omega) (by omega); have a2:iAdd .i64 p1 p3=p1 + p3:=iAdd_i64 (by omega) (by omega); have a3:iSub .i64 (iAdd .i64 p1 p3) p3=iAdd .i64 p1 p3 - p3:=iSub_i64 (by omega) (by omega); omega)),trivial⟩,⟨tt,⟨tt,⟨tt,⟨⟨(by first | omega | (have a1:iSub .i64 (p0.length:Int) p1=(p0.length:Int) - p1:=iSub_i64 (by omega) (by omega); have a2:iAdd .i64 p1 p3=p1 + p3:=iAdd_i64 (by omega) (by omega); have a3:iSub .i64 (iAdd .i64 p1 p3) p3=iAdd .i64 p1 p3 - p3:=iSub_i64 (by omega) (by omega); omega)),trivial⟩,⟨tt,⟨tt,⟨tt,⟨tt,⟨tt,⟨⟨(by first | omega | (have a1:iSub .i64 (p0.length:Int) p1=(p0.length:Int) - p1:=iSub_i64 (by omega) (by omega); have a2:iAdd .i64 p1 p3=p1 + p3:=iAdd_i64 (by omega) (by omega); have a3:iSub .i64 (iAdd .i64 p1 p3) p3=iAdd .i64 p1 p3 - p3:=iSub_i64 (by omega) (by omega); omega)),trivial⟩,⟨⟨(by first | omega | (have a1:iSub .i64 (p0.length:Int) p1=(p0.length:Int) - p1:=iSub_i64 (by omega) (by omega); have a2:iAdd .i64 p1 p3=p1 + p3:=iAdd_i64 (by omega) (by omega); have a3:iSub .i64 (iAdd .i64 p1 p3) p3=iAdd .i64 p1 p3 - p3:=iSub_i64 (by omega) (by omega); omega)),trivial⟩,⟨tt,trivial⟩⟩⟩⟩⟩⟩⟩⟩⟩⟩⟩⟩⟩⟩⟩⟩) ?_
     refine Tri.ret ?_
     repeat (first | refine thenP_ret ?_ | refine blkP_ret ?_ | refine countP_ret ?_ | refine joinP_ret ?_ | refine iterP_ret ?_)
     refine endP.conv (r':=⟨.sc (.ro .u8 ((p0.drop (((iSub .i64 (iAdd .i64 p1 p3) p3)).toNat)).take ((((iAdd .i64 p1 p3)).toNat) - (((iSub .i64 (iAdd .i64 p1 p3) p3)).toNat)))),[some (.cells [.ro .u8 p0,.i .i64 (iAdd .i64 p1 p3),.b p2])]⟩) (by simp only [FwcTake,FwcTake_1,FwcTake_2,h1,h2,h3,sel_true,sel_false]) ?_
     exact endP.ret [(0,0)] TT (by kernel_rfl) (by kernel_rfl) tt
theorem cTake_is {p0:List Int} {p1:Int} (p2:Bool) (n:Int) (h:p0.length≤1000000000∧(0:Int)≤p1∧p1≤(p0.length:Int)) :
  (p2=false∧0≤n∧p1 + n≤(p0.length:Int)∧FwcTake p0 p1 p2 n=(p0.drop p1.toNat).take n.toNat∧FwcTake_1 p0 p1 p2 n=p1 + n∧FwcTake_2 p0 p1 p2 n=false) ∨
  (¬ (p2=false∧0≤n∧p1 + n≤(p0.length:Int))∧FwcTake p0 p1 p2 n=[]∧FwcTake_1 p0 p1 p2 n=p1∧FwcTake_2 p0 p1 p2 n=true):=by
 obtain ⟨h1,h2,h3⟩:=h
 unfold FwcTake FwcTake_1 FwcTake_2
 cases p2
 ·simp only [sel_false]
  cases h4:decide (n < 0)
  ·have h4':=of_decide_eq_false h4
   simp only [sel_false]
   have a1:iSub .i64 (p0.length:Int) p1=(p0.length:Int) - p1:=iSub_i64 (by omega) (by omega)
   rw [a1]
   cases h5:decide (n > (p0.length:Int) - p1)
   ·have h5':=of_decide_eq_false h5
    simp only [sel_false]
    have a2:iAdd .i64 p1 n=p1 + n:=iAdd_i64 (by omega) (by omega)
    have a3:iSub .i64 (p1 + n) n=p1:=by rw [iSub_i64 (by omega) (by omega)]; omega
    rw [a2,a3]
    have a4:(p1 + n).toNat - p1.toNat=n.toNat:=by omega
    rw [a4]
    first | exact .inl ⟨rfl,by omega,by omega,rfl,rfl,rfl⟩ | exact .inl ⟨trivial,by omega,by omega,rfl,rfl,trivial⟩ | exact .inl ⟨trivial,by omega,by omega,trivial,trivial,trivial⟩
   ·have h5':=of_decide_eq_true h5
    simp only [sel_true]
    exact .inr ⟨fun ⟨_,_,h⟩ => by omega,trivial,trivial,trivial⟩
  ·have h4':=of_decide_eq_true h4
   simp only [sel_true]
   exact .inr ⟨fun ⟨_,h,_⟩ => by omega,trivial,trivial,trivial⟩
 ·simp only [sel_true]
  exact .inr ⟨fun ⟨h,_⟩ => (by cases h),trivial,trivial,trivial⟩
theorem len_cTake {p0:List Int} {p1:Int} {p2:Bool} {n:Int} (h:p0.length≤1000000000∧(0:Int)≤p1∧p1≤(p0.length:Int)) (hb:FwcTake_2 p0 p1 p2 n=false):((FwcTake p0 p1 p2 n).length:Int)=n:=by
 rcases cTake_is p2 n h with ⟨_,_,_,h1,_⟩ | ⟨_,_,_,h1⟩
 ·rw [h1,List.length_take,List.length_drop]; omega
 ·rw [h1] at hb; cases hb
noncomputable def BwcByte:Bs:={ P:=Go.Proofs.Try.prog,G:=noG,tab:=tabOf [⟨39,48,[.io,.val],[],[0],⟨1,0,SwcTake⟩,false⟩],n:=14 }
theorem BwcByte.ok:BwcByte.Ok:=⟨tabOk (P:=Go.Proofs.Try.prog) (G:=noG) (l:=[⟨39,48,[.io,.val],[],[0],⟨1,0,SwcTake⟩,false⟩]) (And.intro KwcTake True.intro),mixed⟩
noncomputable def FwcU32 (p0:List Int) (p1:Int) (p2:Bool):Int :=
 (sel (FwcTake_2 p0 p1 p2 4) 0 (iAdd .i64 (iAdd .i64 (iAdd .i64 (iMul .i64 (IntKind.wrap .i64 ((FwcTake p0 p1 p2 4).getD 0 0)) 16777216) (iMul .i64 (IntKind.wrap .i64 ((FwcTake p0 p1 p2 4).getD 1 0)) 65536)) (iMul .i64 (IntKind.wrap .i64 ((FwcTake p0 p1 p2 4).getD 2 0)) 256)) (IntKind.wrap .i64 ((FwcTake p0 p1 p2 4).getD 3 0))))
noncomputable def FwcU32_1 (p0:List Int) (p1:Int) (p2:Bool):Int :=
 (FwcTake_1 p0 p1 p2 4)
noncomputable def FwcU32_2 (p0:List Int) (p1:Int) (p2:Bool):Bool :=
 (FwcTake_2 p0 p1 p2 4)
noncomputable def SwcU32:List AV→List Blk→Option (Prop × Ret)
 | [.sc (.p 0 0)],[.cells [.ro .u8 p0,.i .i64 p1,.b p2]] => some ((p0.length≤1000000000∧(0:Int)≤p1∧p1≤(p0.length:Int)),⟨.sc (.i .i64 (FwcU32 p0 p1 p2)),[some (.cells [.ro .u8 p0,.i .i64 (FwcU32_1 p0 p1 p2),.b (FwcU32_2 p0 p1 p2)])]⟩)
 | _,_ => none
noncomputable def BwcU32:Bs:={ P:=Go.Proofs.Try.prog,G:=noG,tab:=tabOf [⟨39,48,[.io,.val],[],[0],⟨1,0,SwcTake⟩,false⟩],n:=32 }
theorem BwcU32.ok:BwcU32.Ok:=⟨tabOk (P:=Go.Proofs.Try.prog) (G:=noG) (l:=[⟨39,48,[.io,.val],[],[0],⟨1,0,SwcTake⟩,false⟩]) (And.intro KwcTake True.intro),mixed⟩
theorem KwcU32:Known Go.Proofs.Try.prog noG 21 ⟨1,0,SwcU32⟩:=by
 refine Known.walk (B:=BwcU32) (fn:=Go.Proofs.Try.f21) BwcU32.ok (by kernel_rfl) rfl (by kernel_rfl) (by kernel_rfl) (by decide) (by decide) ?_
 ·intro E args ks C r h hC hlen
  simp only at h
  unfold SwcU32 at h
  split at h
  rotate_left
  ·cases h
  rename_i p0 p1 p2
  cases h
  simp only [lens] at hlen
  refine ⟨show 1≤32 from by decide,?_⟩
  refine Tri.sub (Sub.of_eq (show _=([(0,.sc (.p 0 0))],[(0,.cells [.ro .u8 p0,.i .i64 p1,.b p2])]) from rfl)) ?_
  refine Tri.seq_region [] none [0] [0] (TT∧True)
    ([(0,.sc (.p 0 0))],[(0,.cells [.ro .u8 p0,.i .i64 p1,.b p2])])
    32 (by kernel_rfl) rfl (by kernel_rfl) (⟨tt,trivial⟩) ?_
  refine Tri.seq_region [] none [3,0] [0] (TT∧(((True∧(p0.length≤1000000000∧(0:Int)≤p1∧p1≤(p0.length:Int)))∧True)∧(TT∧True)))
    ([(3,.sc (.ro .u8 (FwcTake p0 p1 p2 4))),(0,.sc (.p 0 0))],[(0,.cells [.ro .u8 p0,.i .i64 (FwcTake_1 p0 p1 p2 4),.b (FwcTake_2 p0 p1 p2 4)])])
    80 (by kernel_rfl) rfl (by kernel_rfl) (⟨tt,⟨⟨⟨trivial,(by first | omega | (have hq:=len_cTake hC (n:=4) (by assumption); omega) | decide)⟩,trivial⟩,⟨tt,trivial⟩⟩⟩) ?_
  refine Tri.seq ?_
  refine Tri.seq_region [] none [9,3] [0] (TT∧(TT∧(TT∧(((2 < 3)∧True)∧True))))
    ([(9,.sc (.b (FwcTake_2 p0 p1 p2 4))),(3,.sc (.ro .u8 (FwcTake p0 p1 p2 4)))],[(0,.cells [.ro .u8 p0,.i .i64 (FwcTake_1 p0 p1 p2 4),.b (FwcTake_2 p0 p1 p2 4)])])
    144 (by kernel_rfl) rfl (by kernel_rfl) (⟨tt,⟨tt,⟨tt,⟨⟨(by first | omega | (have hq:=len_cTake hC (n:=4) (by assumption); omega) | decide),trivial⟩,trivial⟩⟩⟩⟩) ?_
  refine Tri.cond (x:=(FwcTake_2 p0 p1 p2 4)) (by kernel_rfl) (fun h1 => ?_) (fun h1 => ?_)
  ·
   refine Tri.seq_region [] none [2] [0] (TT∧True)
     ([(2,.sc (.i .i64 0))],[(0,.cells [.ro .u8 p0,.i .i64 (FwcTake_1 p0 p1 p2 4),.b (FwcTake_2 p0 p1 p2 4)])])
     160 (by kernel_rfl) rfl (by kernel_rfl) (⟨tt,trivial⟩) ?_
   refine Tri.ret ?_
   repeat (first | refine thenP_ret ?_ | refine blkP_ret ?_ | refine countP_ret ?_ | refine joinP_ret ?_ | refine iterP_ret ?_)
   refine endP.conv (r':=⟨.sc (.i .i64 0),[some (.cells [.ro .u8 p0,.i .i64 (FwcTake_1 p0 p1 p2 4),.b (FwcTake_2 p0 p1 p2 4)])]⟩) (by simp only [FwcU32,FwcU32_1,FwcU32_2,h1,sel_true,sel_false]) ?_
   exact endP.ret [(0,0)] TT (by kernel_rfl) (by kernel_rfl) tt
  ·
   refine Tri.skip ?_
   change Tri _ _ _ _ _ _
   refine Tri.seq_region [] (some [0,1,3,7,15,0,32,96,224,480,1023,0,2048,6144,14336,30720,65535,0,131072,393216,917504,2097151,4194303]) [2] [0] (TT∧((((0:Int)≤0∧0 < ((FwcTake p0 p1 p2 4).length:Int))∧True)∧(((0 < (FwcTake p0 p1 p2 4).length)∧True)∧(TT∧(TT∧(TT∧((((0:Int)≤1∧1 < ((FwcTake p0 p1 p2 4).length:Int))∧True)∧(((1 < (FwcTake p0 p1 p2 4).length)∧True)∧(TT∧(TT∧(TT∧(TT∧((((0:Int)≤2∧2 < ((FwcTake p0 p1 p2 4).length:Int))∧True)∧(((2 < (FwcTake p0 p1 p2 4).length)∧True)∧(TT∧(TT∧(TT∧(TT∧((((0:Int)≤3∧3 < ((FwcTake p0 p1 p2 4).length:Int))∧True)∧(((3 < (FwcTake p0 p1 p2 4).length)∧True)∧(TT∧(TT∧(TT∧True)))))))))))))))))))))))
     ([(2,.sc (.i .i64 (iAdd .i64 (iAdd .i64 (iAdd .i64 (iMul .i64 (IntKind.wrap .i64 ((FwcTake p0 p1 p2 4).getD 0 0)) 16777216) (iMul .i64 (IntKind.wrap .i64 ((FwcTake p0 p1 p2 4).getD 1 0)) 65536)) (iMul .i64 (IntKind.wrap .i64 ((FwcTake p0 p1 p2 4).getD 2 0)) 256)) (IntKind.wrap .i64 ((FwcTake p0 p1 p2 4).getD 3 0)))))],[(0,.cells [.ro .u8 p0,.i .i64 (FwcTake_1 p0 p1 p2 4),.b (FwcTake_2 p0 p1 p2 4)])])
     512 (by kernel_rfl) rfl (by kernel_rfl) (⟨tt,⟨⟨(by first | omega | (have hq:=len_cTake hC (n:=4) (by assumption); omega) | decide),trivial⟩,⟨⟨(by first | omega | (have hq:=len_cTake hC (n:=4) (by assumption); omega) | decide),trivial⟩,⟨tt,⟨tt,⟨tt,⟨⟨(by first | omega | (have hq:=len_cTake hC (n:=4) (by assumption); omega) | decide),trivial⟩,⟨⟨(by first | omega | (have hq:=len_cTake hC (n:=4) (by assumption); omega) | decide),trivial⟩,⟨tt,⟨tt,⟨tt,⟨tt,⟨⟨(by first | omega | (have hq:=len_cTake hC (n:=4) (by assumption); omega) | decide),trivial⟩,⟨⟨(by first | omega | (have hq:=len_cTake hC (n:=4) (by assumption); omega) | decide),trivial⟩,⟨tt,⟨tt,⟨tt,⟨tt,⟨⟨(by first | omega | (have hq:=len_cTake hC (n:=4) (by assumption); omega) | decide),trivial⟩,⟨⟨(by first | omega | (have hq:=len_cTake hC (n:=4) (by assumption); omega) | decide),trivial⟩,⟨tt,⟨tt,⟨tt,trivial⟩⟩⟩⟩⟩⟩⟩⟩⟩⟩⟩⟩⟩⟩⟩⟩⟩⟩⟩⟩⟩⟩⟩) ?_
   refine Tri.ret ?_
   repeat (first | refine thenP_ret ?_ | refine blkP_ret ?_ | refine countP_ret ?_ | refine joinP_ret ?_ | refine iterP_ret ?_)
   refine endP.conv (r':=⟨.sc (.i .i64 (iAdd .i64 (iAdd .i64 (iAdd .i64 (iMul .i64 (IntKind.wrap .i64 ((FwcTake p0 p1 p2 4).getD 0 0)) 16777216) (iMul .i64 (IntKind.wrap .i64 ((FwcTake p0 p1 p2 4).getD 1 0)) 65536)) (iMul .i64 (IntKind.wrap .i64 ((FwcTake p0 p1 p2 4).getD 2 0)) 256)) (IntKind.wrap .i64 ((FwcTake p0 p1 p2 4).getD 3 0)))),[some (.cells [.ro .u8 p0,.i .i64 (FwcTake_1 p0 p1 p2 4),.b (FwcTake_2 p0 p1 p2 4)])]⟩) (by simp only [FwcU32,FwcU32_1,FwcU32_2,h1,sel_true,sel_false]) ?_
   exact endP.ret [(0,0)] TT (by kernel_rfl) (by kernel_rfl) tt
noncomputable def BwcText:Bs:={ P:=Go.Proofs.Try.prog,G:=noG,tab:=tabOf [⟨21,48,[.io],[],[0],⟨1,0,SwcU32⟩,false⟩,⟨39,208,[.io,.val],[],[0],⟨1,0,SwcTake⟩,false⟩],n:=15 }
theorem BwcText.ok:BwcText.Ok:=⟨tabOk (P:=Go.Proofs.Try.prog) (G:=noG) (l:=[⟨21,48,[.io],[],[0],⟨1,0,SwcU32⟩,false⟩,⟨39,208,[.io,.val],[],[0],⟨1,0,SwcTake⟩,false⟩]) (And.intro KwcU32 (And.intro KwcTake True.intro)),mixed⟩
noncomputable def BwcEnd:Bs:={ P:=Go.Proofs.Try.prog,G:=noG,tab:=tabOf [],n:=20 }
theorem BwcEnd.ok:BwcEnd.Ok:=⟨tabOk (P:=Go.Proofs.Try.prog) (G:=noG) (l:=[]) True.intro,mixed⟩
noncomputable def FwrU32 (p0:Int):List Int :=
 [(IntKind.wrap .u8 (iQuo .i64 p0 16777216)),(IntKind.wrap .u8 (iQuo .i64 p0 65536)),(IntKind.wrap .u8 (iQuo .i64 p0 256)),(IntKind.wrap .u8 p0)]
noncomputable def SwrU32:List AV→List Blk→Option (Prop × Ret)
 | [.sc (.i .i64 p0)],[] => some (True,⟨.sc (.sl 0 0 4 1 none),[some (.ints .u8 4 (FwrU32 p0))]⟩)
 | _,_ => none
noncomputable def BwrU32:Bs:={ P:=Go.Proofs.Try.prog,G:=noG,tab:=tabOf [],n:=15 }
theorem BwrU32.ok:BwrU32.Ok:=⟨tabOk (P:=Go.Proofs.Try.prog) (G:=noG) (l:=[]) True.intro,mixed⟩
theorem KwrU32:Known Go.Proofs.Try.prog noG 15 ⟨0,1,SwrU32⟩:=by
 refine Known.walk (B:=BwrU32) (fn:=Go.Proofs.Try.f15) BwrU32.ok (by kernel_rfl) rfl (by kernel_rfl) (by kernel_rfl) (by decide) (by decide) ?_
 ·intro E args ks C r h hC hlen
  simp only at h
  unfold SwrU32 at h
  split at h
  rotate_left
  ·cases h
  rename_i p0
  cases h
  simp only [lens] at hlen
  refine ⟨show 1≤15 from by decide,?_⟩
  refine Tri.sub (Sub.of_eq (show _=([(0,.sc (.i .i64 p0))],[]) from rfl)) ?_
  refine Tri.seq_region [] none [0] [] (TT∧True)
    ([(0,.sc (.i .i64 p0))],[])
    32 (by kernel_rfl) rfl (by kernel_rfl) (⟨tt,trivial⟩) ?_
  refine Tri.seq_region [] none [2] [208] (TT∧(((16777216 ≠ (0:Int))∧True)∧(TT∧(TT∧(((65536 ≠ (0:Int))∧True)∧(TT∧(TT∧(((256 ≠ (0:Int))∧True)∧(TT∧(TT∧(TT∧((((((0 < 4)∧(1=1))∧(((1 < 4)∧(1=1))∧(((2 < 4)∧(1=1))∧(((3 < 4)∧(1=1))∧True))))∧((4 * 1≤16777216)∧(1=1)))∧True)∧(TT∧True)))))))))))))
    ([(2,.sc (.sl 208 0 4 1 none))],[(208,.ints .u8 4 [(IntKind.wrap .u8 (iQuo .i64 p0 16777216)),(IntKind.wrap .u8 (iQuo .i64 p0 65536)),(IntKind.wrap .u8 (iQuo .i64 p0 256)),(IntKind.wrap .u8 p0)])])
    240 (by kernel_rfl) rfl (by kernel_rfl) (⟨tt,⟨⟨(by first | omega | (rw [adr_eq]; omega) | exact iAnd_nn _ _ | exact iSub_nn _ _ | exact part1_le (by omega) (by first | omega | (simp only [List.length_append]; omega)) | decide),trivial⟩,⟨tt,⟨tt,⟨⟨(by first | omega | (rw [adr_eq]; omega) | exact iAnd_nn _ _ | exact iSub_nn _ _ | exact part1_le (by omega) (by first | omega | (simp only [List.length_append]; omega)) | decide),trivial⟩,⟨tt,⟨tt,⟨⟨(by first | omega | (rw [adr_eq]; omega) | exact iAnd_nn _ _ | exact iSub_nn _ _ | exact part1_le (by omega) (by first | omega | (simp only [List.length_append]; omega)) | decide),trivial⟩,⟨tt,⟨tt,⟨tt,⟨⟨⟨⟨⟨(by first | omega | (rw [adr_eq]; omega) | exact iAnd_nn _ _ | exact iSub_nn _ _ | exact part1_le (by omega) (by first | omega | (simp only [List.length_append]; omega)) | decide),(rfl)⟩,⟨⟨(by first | omega | (rw [adr_eq]; omega) | exact iAnd_nn _ _ | exact iSub_nn _ _ | exact part1_le (by omega) (by first | omega | (simp only [List.length_append]; omega)) | decide),(rfl)⟩,⟨⟨(by first | omega | (rw [adr_eq]; omega) | exact iAnd_nn _ _ | exact iSub_nn _ _ | exact part1_le (by omega) (by first | omega | (simp only [List.length_append]; omega)) | decide),(rfl)⟩,⟨⟨(by first | omega | (rw [adr_eq]; omega) | exact iAnd_nn _ _ | exact iSub_nn _ _ | exact part1_le (by omega) (by first | omega | (simp only [List.length_append]; omega)) | decide),(rfl)⟩,trivial⟩⟩⟩⟩,⟨(by first | omega | (rw [adr_eq]; omega) | exact iAnd_nn _ _ | exact iSub_nn _ _ | exact part1_le (by omega) (by first | omega | (simp only [List.length_append]; omega)) | decide),(rfl)⟩⟩,trivial⟩,⟨tt,trivial⟩⟩⟩⟩⟩⟩⟩⟩⟩⟩⟩⟩⟩) ?_
  refine Tri.ret ?_
  repeat (first | refine thenP_ret ?_ | refine blkP_ret ?_ | refine countP_ret ?_ | refine joinP_ret ?_ | refine iterP_ret ?_)
  exact endP.ret [(208,0)] TT (by kernel_rfl) (by kernel_rfl) tt
noncomputable def BwrText:Bs:={ P:=Go.Proofs.Try.prog,G:=noG,tab:=tabOf [⟨15,64,[.val],[],[],⟨0,1,SwrU32⟩,false⟩],n:=8 }
theorem BwrText.ok:BwrText.Ok:=⟨tabOk (P:=Go.Proofs.Try.prog) (G:=noG) (l:=[⟨15,64,[.val],[],[],⟨0,1,SwrU32⟩,false⟩]) (And.intro KwrU32 True.intro),mixed⟩
noncomputable def BwrJoin:Bs:={ P:=Go.Proofs.Try.prog,G:=noG,tab:=tabOf [],n:=18 }
theorem BwrJoin.ok:BwrJoin.Ok:=⟨tabOk (P:=Go.Proofs.Try.prog) (G:=noG) (l:=[]) True.intro,mixed⟩
noncomputable def FwwU32 (p0:Nat) (p2:List Int) (p3:Int):List Int :=
 p2 ++ [(IntKind.wrap .u8 (iShr .u32 p3 24)),(IntKind.wrap .u8 (iShr .u32 p3 16)),(IntKind.wrap .u8 (iShr .u32 p3 8)),(IntKind.wrap .u8 p3)]
noncomputable def SwwU32:List AV→List Blk→Option (Prop × Ret)
 | [.sc (.sl 0 0 p0 1 none),.sc (.i .u32 p3)],[.ints .u8 p1 p2] => some (((p0=p1)∧(p0≤1000000000)),⟨.sc (.sl 1 0 (p0 + 4) 1 none),[none,some (.ints .u8 (p0 + 4) (FwwU32 p0 p2 p3))]⟩)
 | _,_ => none
noncomputable def BwwU32:Bs:={ P:=Go.Proofs.Try.prog,G:=noG,tab:=tabOf [],n:=19 }
theorem BwwU32.ok:BwwU32.Ok:=⟨tabOk (P:=Go.Proofs.Try.prog) (G:=noG) (l:=[]) True.intro,mixed⟩
theorem KwwU32:Known Go.Proofs.Try.prog noG 29 ⟨1,1,SwwU32⟩:=by
 refine Known.walk (B:=BwwU32) (fn:=Go.Proofs.Try.f29) BwwU32.ok (by kernel_rfl) rfl (by kernel_rfl) (by kernel_rfl) (by decide) (by decide) ?_
 ·intro E args ks C r h hC hlen
  simp only at h
  unfold SwwU32 at h
  split at h
  rotate_left
  ·cases h
  rename_i p0 p3 p1 p2
  cases h
  simp only [lens] at hlen
  have hEp1:=hC.1
  have hC:=hC.2
  subst hEp1
  refine ⟨show 2≤19 from by decide,?_⟩
  refine Tri.sub (Sub.of_eq (show _=([(0,.sc (.sl 0 0 p0 1 none)),(1,.sc (.i .u32 p3))],[(0,.ints .u8 p0 p2)]) from rfl)) ?_
  refine Tri.seq_region [] none [0,1] [0] (TT∧True)
    ([(0,.sc (.sl 0 0 p0 1 none)),(1,.sc (.i .u32 p3))],[(0,.ints .u8 p0 p2)])
    32 (by kernel_rfl) rfl (by kernel_rfl) (⟨tt,trivial⟩) ?_
  refine Tri.len 0 rfl (fun hl1 => ?_)
  refine Tri.seq_region [] none [4] [240] (TT∧(TT∧((((0:Int)≤24)∧True)∧(TT∧(TT∧((((0:Int)≤16)∧True)∧(TT∧(TT∧((((0:Int)≤8)∧True)∧(TT∧(TT∧(TT∧((((((0 < 4)∧(1=1))∧(((1 < 4)∧(1=1))∧(((2 < 4)∧(1=1))∧(((3 < 4)∧(1=1))∧True))))∧((4 * 1≤16777216)∧(1=1)))∧True)∧((((((True∧(1=1))∧((0 < 1)∧(((p0 + 4) * 1≤140737488355328)∧(p0 + 4≤140737488355328))))∧(4=4 * 1))∧((1=1)∧(0 + p0 * 1=p0)))∧True)∧(TT∧True)))))))))))))))
    ([(4,.sc (.sl 240 0 (p0 + 4) 1 none))],[(240,.ints .u8 (p0 + 4) (p2 ++ [(IntKind.wrap .u8 (iShr .u32 p3 24)),(IntKind.wrap .u8 (iShr .u32 p3 16)),(IntKind.wrap .u8 (iShr .u32 p3 8)),(IntKind.wrap .u8 p3)]))])
    272 (by kernel_rfl) rfl (by kernel_rfl) (⟨tt,⟨tt,⟨⟨(by first | omega | (rw [adr_eq]; omega) | exact iAnd_nn _ _ | exact iSub_nn _ _ | exact part1_le (by omega) (by first | omega | (simp only [List.length_append]; omega)) | decide),trivial⟩,⟨tt,⟨tt,⟨⟨(by first | omega | (rw [adr_eq]; omega) | exact iAnd_nn _ _ | exact iSub_nn _ _ | exact part1_le (by omega) (by first | omega | (simp only [List.length_append]; omega)) | decide),trivial⟩,⟨tt,⟨tt,⟨⟨(by first | omega | (rw [adr_eq]; omega) | exact iAnd_nn _ _ | exact iSub_nn _ _ | exact part1_le (by omega) (by first | omega | (simp only [List.length_append]; omega)) | decide),trivial⟩,⟨tt,⟨tt,⟨tt,⟨⟨⟨⟨⟨(by first | omega | (rw [adr_eq]; omega) | exact iAnd_nn _ _ | exact iSub_nn _ _ | exact part1_le (by omega) (by first | omega | (simp only [List.length_append]; omega)) | decide),(rfl)⟩,⟨⟨(by first | omega | (rw [adr_eq]; omega) | exact iAnd_nn _ _ | exact iSub_nn _ _ | exact part1_le (by omega) (by first | omega | (simp only [List.length_append]; omega)) | decide),(rfl)⟩,⟨⟨(by first | omega | (rw [adr_eq]; omega) | exact iAnd_nn _ _ | exact iSub_nn _ _ | exact part1_le (by omega) (by first | omega | (simp only [List.length_append]; omega)) | decide),(rfl)⟩,⟨⟨(by first | omega | (rw [adr_eq]; omega) | exact iAnd_nn _ _ | exact iSub_nn _ _ | exact part1_le (by omega) (by first | omega | (simp only [List.length_append]; omega)) | decide),(rfl)⟩,trivial⟩⟩⟩⟩,⟨(by first | omega | (rw [adr_eq]; omega) | exact iAnd_nn _ _ | exact iSub_nn _ _ | exact part1_le (by omega) (by first | omega | (simp only [List.length_append]; omega)) | decide),(rfl)⟩⟩,trivial⟩,⟨⟨⟨⟨⟨⟨trivial,(rfl)⟩,⟨(by first | omega | (rw [adr_eq]; omega) | exact iAnd_nn _ _ | exact iSub_nn _ _ | exact part1_le (by omega) (by first | omega | (simp only [List.length_append]; omega)) | decide),⟨(by first | omega | (rw [adr_eq]; omega) | exact iAnd_nn _ _ | exact iSub_nn _ _ | exact part1_le (by omega) (by first | omega | (simp only [List.length_append]; omega)) | decide),(by first | omega | (rw [adr_eq]; omega) | exact iAnd_nn _ _ | exact iSub_nn _ _ | exact part1_le (by omega) (by first | omega | (simp only [List.length_append]; omega)) | decide)⟩⟩⟩,(by first | omega | (rw [adr_eq]; omega) | exact iAnd_nn _ _ | exact iSub_nn _ _ | exact part1_le (by omega) (by first | omega | (simp only [List.length_append]; omega)) | decide)⟩,⟨(rfl),(by first | omega | (rw [adr_eq]; omega) | exact iAnd_nn _ _ | exact iSub_nn _ _ | exact part1_le (by omega) (by first | omega | (simp only [List.length_append]; omega)) | decide)⟩⟩,trivial⟩,⟨tt,trivial⟩⟩⟩⟩⟩⟩⟩⟩⟩⟩⟩⟩⟩⟩⟩) ?_
  refine Tri.ret ?_
  repeat (first | refine thenP_ret ?_ | refine blkP_ret ?_ | refine countP_ret ?_ | refine joinP_ret ?_ | refine iterP_ret ?_)
  exact endP.ret [(240,1)] TT (by kernel_rfl) (by kernel_rfl) tt
noncomputable def FwwU32z (p0:Nat) (p2:List Int) (p3:Int):List Int :=
 part1 (p2 ++ [(IntKind.wrap .u8 (iShr .u32 p3 24)),(IntKind.wrap .u8 (iShr .u32 p3 16)),(IntKind.wrap .u8 (iShr .u32 p3 8)),(IntKind.wrap .u8 p3)]) (p0 + 4) 0 (p0 + 4)
noncomputable def SwwU32z:List AV→List Blk→Option (Prop × Ret)
 | [.sc (.sl 0 0 p0 1 none),.sc (.i .u32 p3)],[.ints .u8 p1 p2] => some (((p0=p1)∧(p0≤1000000000)),⟨.sc (.ro .u8 (FwwU32z p0 p2 p3)),[none]⟩)
 | _,_ => none
noncomputable def BwwU32z:Bs:={ P:=Go.Proofs.Try.prog,G:=noG,tab:=tabOf [],n:=19 }
theorem BwwU32z.ok:BwwU32z.Ok:=⟨tabOk (P:=Go.Proofs.Try.prog) (G:=noG) (l:=[]) True.intro,mixed⟩
theorem KwwU32z:Known Go.Proofs.Try.prog noG 29 ⟨1,0,SwwU32z⟩:=by
 refine Known.walk (B:=BwwU32z) (fn:=Go.Proofs.Try.f29) BwwU32z.ok (by kernel_rfl) rfl (by kernel_rfl) (by kernel_rfl) (by decide) (by decide) ?_
 ·intro E args ks C r h hC hlen
  simp only at h
  unfold SwwU32z at h
  split at h
  rotate_left
  ·cases h
  rename_i p0 p3 p1 p2
  cases h
  simp only [lens] at hlen
  have hEp1:=hC.1
  have hC:=hC.2
  subst hEp1
  refine ⟨show 2≤19 from by decide,?_⟩
  refine Tri.sub (Sub.of_eq (show _=([(0,.sc (.sl 0 0 p0 1 none)),(1,.sc (.i .u32 p3))],[(0,.ints .u8 p0 p2)]) from rfl)) ?_
  refine Tri.seq_region [] none [0,1] [0] (TT∧True)
    ([(0,.sc (.sl 0 0 p0 1 none)),(1,.sc (.i .u32 p3))],[(0,.ints .u8 p0 p2)])
    32 (by kernel_rfl) rfl (by kernel_rfl) (⟨tt,trivial⟩) ?_
  refine Tri.len 0 rfl (fun hl1 => ?_)
  refine Tri.seq_region [] none [4] [240] (TT∧(TT∧((((0:Int)≤24)∧True)∧(TT∧(TT∧((((0:Int)≤16)∧True)∧(TT∧(TT∧((((0:Int)≤8)∧True)∧(TT∧(TT∧(TT∧((((((0 < 4)∧(1=1))∧(((1 < 4)∧(1=1))∧(((2 < 4)∧(1=1))∧(((3 < 4)∧(1=1))∧True))))∧((4 * 1≤16777216)∧(1=1)))∧True)∧((((((True∧(1=1))∧((0 < 1)∧(((p0 + 4) * 1≤140737488355328)∧(p0 + 4≤140737488355328))))∧(4=4 * 1))∧((1=1)∧(0 + p0 * 1=p0)))∧True)∧(TT∧True)))))))))))))))
    ([(4,.sc (.sl 240 0 (p0 + 4) 1 none))],[(240,.ints .u8 (p0 + 4) (p2 ++ [(IntKind.wrap .u8 (iShr .u32 p3 24)),(IntKind.wrap .u8 (iShr .u32 p3 16)),(IntKind.wrap .u8 (iShr .u32 p3 8)),(IntKind.wrap .u8 p3)]))])
    272 (by kernel_rfl) rfl (by kernel_rfl) (⟨tt,⟨tt,⟨⟨(by first | omega | (rw [adr_eq]; omega) | exact iAnd_nn _ _ | exact iSub_nn _ _ | exact part1_le (by omega) (by first | omega | (simp only [List.length_append]; omega)) | decide),trivial⟩,⟨tt,⟨tt,⟨⟨(by first | omega | (rw [adr_eq]; omega) | exact iAnd_nn _ _ | exact iSub_nn _ _ | exact part1_le (by omega) (by first | omega | (simp only [List.length_append]; omega)) | decide),trivial⟩,⟨tt,⟨tt,⟨⟨(by first | omega | (rw [adr_eq]; omega) | exact iAnd_nn _ _ | exact iSub_nn _ _ | exact part1_le (by omega) (by first | omega | (simp only [List.length_append]; omega)) | decide),trivial⟩,⟨tt,⟨tt,⟨tt,⟨⟨⟨⟨⟨(by first | omega | (rw [adr_eq]; omega) | exact iAnd_nn _ _ | exact iSub_nn _ _ | exact part1_le (by omega) (by first | omega | (simp only [List.length_append]; omega)) | decide),(rfl)⟩,⟨⟨(by first | omega | (rw [adr_eq]; omega) | exact iAnd_nn _ _ | exact iSub_nn _ _ | exact part1_le (by omega) (by first | omega | (simp only [List.length_append]; omega)) | decide),(rfl)⟩,⟨⟨(by first | omega | (rw [adr_eq]; omega) | exact iAnd_nn _ _ | exact iSub_nn _ _ | exact part1_le (by omega) (by first | omega | (simp only [List.length_append]; omega)) | decide),(rfl)⟩,⟨⟨(by first | omega | (rw [adr_eq]; omega) | exact iAnd_nn _ _ | exact iSub_nn _ _ | exact part1_le (by omega) (by first | omega | (simp only [List.length_append]; omega)) | decide),(rfl)⟩,trivial⟩⟩⟩⟩,⟨(by first | omega | (rw [adr_eq]; omega) | exact iAnd_nn _ _ | exact iSub_nn _ _ | exact part1_le (by omega) (by first | omega | (simp only [List.length_append]; omega)) | decide),(rfl)⟩⟩,trivial⟩,⟨⟨⟨⟨⟨⟨trivial,(rfl)⟩,⟨(by first | omega | (rw [adr_eq]; omega) | exact iAnd_nn _ _ | exact iSub_nn _ _ | exact part1_le (by omega) (by first | omega | (simp only [List.length_append]; omega)) | decide),⟨(by first | omega | (rw [adr_eq]; omega) | exact iAnd_nn _ _ | exact iSub_nn _ _ | exact part1_le (by omega) (by first | omega | (simp only [List.length_append]; omega)) | decide),(by first | omega | (rw [adr_eq]; omega) | exact iAnd_nn _ _ | exact iSub_nn _ _ | exact part1_le (by omega) (by first | omega | (simp only [List.length_append]; omega)) | decide)⟩⟩⟩,(by first | omega | (rw [adr_eq]; omega) | exact iAnd_nn _ _ | exact iSub_nn _ _ | exact part1_le (by omega) (by first | omega | (simp only [List.length_append]; omega)) | decide)⟩,⟨(rfl),(by first | omega | (rw [adr_eq]; omega) | exact iAnd_nn _ _ | exact iSub_nn _ _ | exact part1_le (by omega) (by first | omega | (simp only [List.length_append]; omega)) | decide)⟩⟩,trivial⟩,⟨tt,trivial⟩⟩⟩⟩⟩⟩⟩⟩⟩⟩⟩⟩⟩⟩⟩) ?_
  refine Tri.sub (Sub.still (s':=([(4,.sc (.ro .u8 (part1 (p2 ++ [(IntKind.wrap .u8 (iShr .u32 p3 24)),(IntKind.wrap .u8 (iShr .u32 p3 16)),(IntKind.wrap .u8 (iShr .u32 p3 8)),(IntKind.wrap .u8 p3)]) (p0 + 4) 0 (p0 + 4))))],[])) 240 (.ints .u8 (p0 + 4) (p2 ++ [(IntKind.wrap .u8 (iShr .u32 p3 24)),(IntKind.wrap .u8 (iShr .u32 p3 16)),(IntKind.wrap .u8 (iShr .u32 p3 8)),(IntKind.wrap .u8 p3)])) (by kernel_rfl) (show 0 + (p0 + 4)≤p0 + 4 from by first | omega | (rw [adr_eq]; omega) | exact iAnd_nn _ _ | exact iSub_nn _ _ | exact part1_le (by omega) (by first | omega | (simp only [List.length_append]; omega)) | decide) (by kernel_rfl)) ?_
  refine Tri.ret ?_
  repeat (first | refine thenP_ret ?_ | refine blkP_ret ?_ | refine countP_ret ?_ | refine joinP_ret ?_ | refine iterP_ret ?_)
  exact endP.ret [] TT (by kernel_rfl) (by kernel_rfl) tt
noncomputable def FwwText (p0:Nat) (p2:List Int) (p3:ByteArray):List Int :=
 (FwwU32 p0 p2 (IntKind.wrap .u32 ((p3.size:Nat):Int))) ++ (bytesI p3)
noncomputable def SwwText:List AV→List Blk→Option (Prop × Ret)
 | [.sc (.sl 0 0 p0 1 none),.sc (.s p3)],[.ints .u8 p1 p2] => some (((p0=p1)∧(p0≤1000000000∧p3.size≤1000000000)),⟨.sc (.sl 1 0 ((p0 + 4) + p3.size) 1 none),[none,some (.ints .u8 ((p0 + 4) + p3.size) (FwwText p0 p2 p3))]⟩)
 | _,_ => none
noncomputable def BwwText:Bs:={ P:=Go.Proofs.Try.prog,G:=noG,tab:=tabOf [⟨29,96,[.io,.val],[],[0],⟨1,1,SwwU32⟩,false⟩],n:=12 }
theorem BwwText.ok:BwwText.Ok:=⟨tabOk (P:=Go.Proofs.Try.prog) (G:=noG) (l:=[⟨29,96,[.io,.val],[],[0],⟨1,1,SwwU32⟩,false⟩]) (And.intro KwwU32 True.intro),mixed⟩
theorem KwwText:Known Go.Proofs.Try.prog noG 30 ⟨1,1,SwwText⟩:=by
 refine Known.walk (B:=BwwText) (fn:=Go.Proofs.Try.f30) BwwText.ok (by kernel_rfl) rfl (by kernel_rfl) (by kernel_rfl) (by decide) (by decide) ?_
 ·intro E args ks C r h hC hlen
  simp only at h
  unfold SwwText at h
  split at h
  rotate_left
  ·cases h
  rename_i p0 p3 p1 p2
  cases h
  simp only [lens] at hlen
  have hEp1:=hC.1
  have hC:=hC.2
  subst hEp1
  refine ⟨show 2≤12 from by decide,?_⟩
  refine Tri.sub (Sub.of_eq (show _=([(0,.sc (.sl 0 0 p0 1 none)),(1,.sc (.s p3))],[(0,.ints .u8 p0 p2)]) from rfl)) ?_
  refine Tri.seq_region [] none [0,1] [0] (TT∧True)
    ([(0,.sc (.sl 0 0 p0 1 none)),(1,.sc (.s p3))],[(0,.ints .u8 p0 p2)])
    32 (by kernel_rfl) rfl (by kernel_rfl) (⟨tt,trivial⟩) ?_
  refine Tri.len 0 rfl (fun hl1 => ?_)
  refine Tri.seq_region [] none [4] [128] (TT∧(TT∧(TT∧(TT∧(((True∧((p0=p0)∧(p0≤1000000000)))∧True)∧(TT∧((((((True∧(1=1))∧((0 < 1)∧((((p0 + 4) + p3.size) * 1≤140737488355328)∧((p0 + 4) + p3.size≤140737488355328))))∧(p3.size=p3.size * 1))∧((1=1)∧(0 + (p0 + 4) * 1=p0 + 4)))∧True)∧(TT∧True))))))))
    ([(4,.sc (.sl 128 0 ((p0 + 4) + p3.size) 1 none))],[(128,.ints .u8 ((p0 + 4) + p3.size) ((FwwU32 p0 p2 (IntKind.wrap .u32 ((p3.size:Nat):Int))) ++ (bytesI p3)))])
    160 (by kernel_rfl) rfl (by kernel_rfl) (⟨tt,⟨tt,⟨tt,⟨tt,⟨⟨⟨trivial,⟨(rfl),(by first | omega | (rw [adr_eq]; omega) | exact iAnd_nn _ _ | exact iSub_nn _ _ | exact part1_le (by omega) (by first | omega | (simp only [List.length_append]; omega)) | decide)⟩⟩,trivial⟩,⟨tt,⟨⟨⟨⟨⟨⟨trivial,(rfl)⟩,⟨(by first | omega | (rw [adr_eq]; omega) | exact iAnd_nn _ _ | exact iSub_nn _ _ | exact part1_le (by omega) (by first | omega | (simp only [List.length_append]; omega)) | decide),⟨(by first | omega | (rw [adr_eq]; omega) | exact iAnd_nn _ _ | exact iSub_nn _ _ | exact part1_le (by omega) (by first | omega | (simp only [List.length_append]; omega)) | decide),(by first | omega | (rw [adr_eq]; omega) | exact iAnd_nn _ _ | exact iSub_nn _ _ | exact part1_le (by omega) (by first | omega | (simp only [List.length_append]; omega)) | decide)⟩⟩⟩,(by first | omega | (rw [adr_eq]; omega) | exact iAnd_nn _ _ | exact iSub_nn _ _ | exact part1_le (by omega) (by first | omega | (simp only [List.length_append]; omega)) | decide)⟩,⟨(rfl),(by first | omega | (rw [adr_eq]; omega) | exact iAnd_nn _ _ | exact iSub_nn _ _ | exact part1_le (by omega) (by first | omega | (simp only [List.length_append]; omega)) | decide)⟩⟩,trivial⟩,⟨tt,trivial⟩⟩⟩⟩⟩⟩⟩⟩) ?_
  refine Tri.ret ?_
  repeat (first | refine thenP_ret ?_ | refine blkP_ret ?_ | refine countP_ret ?_ | refine joinP_ret ?_ | refine iterP_ret ?_)
  exact endP.ret [(128,1)] TT (by kernel_rfl) (by kernel_rfl) tt
noncomputable def FwwTextz (p0:Nat) (p2:List Int) (p3:ByteArray):List Int :=
 part1 ((FwwU32 p0 p2 (IntKind.wrap .u32 ((p3.size:Nat):Int))) ++ (bytesI p3)) ((p0 + 4) + p3.size) 0 ((p0 + 4) + p3.size)
noncomputable def SwwTextz:List AV→List Blk→Option (Prop × Ret)
 | [.sc (.sl 0 0 p0 1 none),.sc (.s p3)],[.ints .u8 p1 p2] => some (((p0=p1)∧(p0≤1000000000∧p3.size≤1000000000)),⟨.sc (.ro .u8 (FwwTextz p0 p2 p3)),[none]⟩)
 | _,_ => none
noncomputable def BwwTextz:Bs:={ P:=Go.Proofs.Try.prog,G:=noG,tab:=tabOf [⟨29,96,[.io,.val],[],[0],⟨1,1,SwwU32⟩,false⟩],n:=12 }
theorem BwwTextz.ok:BwwTextz.Ok:=⟨tabOk (P:=Go.Proofs.Try.prog) (G:=noG) (l:=[⟨29,96,[.io,.val],[],[0],⟨1,1,SwwU32⟩,false⟩]) (And.intro KwwU32 True.intro),mixed⟩
theorem KwwTextz:Known Go.Proofs.Try.prog noG 30 ⟨1,0,SwwTextz⟩:=by
 refine Known.walk (B:=BwwTextz) (fn:=Go.Proofs.Try.f30) BwwTextz.ok (by kernel_rfl) rfl (by kernel_rfl) (by kernel_rfl) (by decide) (by decide) ?_
 ·intro E args ks C r h hC hlen
  simp only at h
  unfold SwwTextz at h
  split at h
  rotate_left
  ·cases h
  rename_i p0 p3 p1 p2
  cases h
  simp only [lens] at hlen
  have hEp1:=hC.1
  have hC:=hC.2
  subst hEp1
  refine ⟨show 2≤12 from by decide,?_⟩
  refine Tri.sub (Sub.of_eq (show _=([(0,.sc (.sl 0 0 p0 1 none)),(1,.sc (.s p3))],[(0,.ints .u8 p0 p2)]) from rfl)) ?_
  refine Tri.seq_region [] none [0,1] [0] (TT∧True)
    ([(0,.sc (.sl 0 0 p0 1 none)),(1,.sc (.s p3))],[(0,.ints .u8 p0 p2)])
    32 (by kernel_rfl) rfl (by kernel_rfl) (⟨tt,trivial⟩) ?_
  refine Tri.len 0 rfl (fun hl1 => ?_)
  refine Tri.seq_region [] none [4] [128] (TT∧(TT∧(TT∧(TT∧(((True∧((p0=p0)∧(p0≤1000000000)))∧True)∧(TT∧((((((True∧(1=1))∧((0 < 1)∧((((p0 + 4) + p3.size) * 1≤140737488355328)∧((p0 + 4) + p3.size≤140737488355328))))∧(p3.size=p3.size * 1))∧((1=1)∧(0 + (p0 + 4) * 1=p0 + 4)))∧True)∧(TT∧True))))))))
    ([(4,.sc (.sl 128 0 ((p0 + 4) + p3.size) 1 none))],[(128,.ints .u8 ((p0 + 4) + p3.size) ((FwwU32 p0 p2 (IntKind.wrap .u32 ((p3.size:Nat):Int))) ++ (bytesI p3)))])
    160 (by kernel_rfl) rfl (by kernel_rfl) (⟨tt,⟨tt,⟨tt,⟨tt,⟨⟨⟨trivial,⟨(rfl),(by first | omega | (rw [adr_eq]; omega) | exact iAnd_nn _ _ | exact iSub_nn _ _ | exact part1_le (by omega) (by first | omega | (simp only [List.length_append]; omega)) | decide)⟩⟩,trivial⟩,⟨tt,⟨⟨⟨⟨⟨⟨trivial,(rfl)⟩,⟨(by first | omega | (rw [adr_eq]; omega) | exact iAnd_nn _ _ | exact iSub_nn _ _ | exact part1_le (by omega) (by first | omega | (simp only [List.length_append]; omega)) | decide),⟨(by first | omega | (rw [adr_eq]; omega) | exact iAnd_nn _ _ | exact iSub_nn _ _ | exact part1_le (by omega) (by first | omega | (simp only [List.length_append]; omega)) | decide),(by first | omega | (rw [adr_eq]; omega) | exact iAnd_nn _ _ | exact iSub_nn _ _ | exact part1_le (by omega) (by first | omega | (simp only [List.length_append]; omega)) | decide)⟩⟩⟩,(by first | omega | (rw [adr_eq]; omega) | exact iAnd_nn _ _ | exact iSub_nn _ _ | exact part1_le (by omega) (by first | omega | (simp only [List.length_append]; omega)) | decide)⟩,⟨(rfl),(by first | omega | (rw [adr_eq]; omega) | exact iAnd_nn _ _ | exact iSub_nn _ _ | exact part1_le (by omega) (by first | omega | (simp only [List.length_append]; omega)) | decide)⟩⟩,trivial⟩,⟨tt,trivial⟩⟩⟩⟩⟩⟩⟩⟩) ?_
  refine Tri.sub (Sub.still (s':=([(4,.sc (.ro .u8 (part1 ((FwwU32 p0 p2 (IntKind.wrap .u32 ((p3.size:Nat):Int))) ++ (bytesI p3)) ((p0 + 4) + p3.size) 0 ((p0 + 4) + p3.size))))],[])) 128 (.ints .u8 ((p0 + 4) + p3.size) ((FwwU32 p0 p2 (IntKind.wrap .u32 ((p3.size:Nat):Int))) ++ (bytesI p3))) (by kernel_rfl) (show 0 + ((p0 + 4) + p3.size)≤(p0 + 4) + p3.size from by first | omega | (rw [adr_eq]; omega) | exact iAnd_nn _ _ | exact iSub_nn _ _ | exact part1_le (by omega) (by first | omega | (simp only [List.length_append]; omega)) | decide) (by kernel_rfl)) ?_
  refine Tri.ret ?_
  repeat (first | refine thenP_ret ?_ | refine blkP_ret ?_ | refine countP_ret ?_ | refine joinP_ret ?_ | refine iterP_ret ?_)
  exact endP.ret [] TT (by kernel_rfl) (by kernel_rfl) tt
noncomputable def FwwFlag (p0:Nat) (p2:List Int) (p3:Bool):List Int :=
 (sel p3 (p2 ++ [1]) (p2 ++ [0]))
noncomputable def SwwFlag:List AV→List Blk→Option (Prop × Ret)
 | [.sc (.sl 0 0 p0 1 none),.sc (.b p3)],[.ints .u8 p1 p2] => some (((p0=p1)∧(p0≤1000000000)),⟨.sc (.sl 1 0 (p0 + 1) 1 none),[none,some (.ints .u8 (p0 + 1) (FwwFlag p0 p2 p3))]⟩)
 | _,_ => none
noncomputable def BwwFlag:Bs:={ P:=Go.Proofs.Try.prog,G:=noG,tab:=tabOf [],n:=12 }
theorem BwwFlag.ok:BwwFlag.Ok:=⟨tabOk (P:=Go.Proofs.Try.prog) (G:=noG) (l:=[]) True.intro,mixed⟩
theorem KwwFlag:Known Go.Proofs.Try.prog noG 45 ⟨1,1,SwwFlag⟩:=by
 refine Known.walk (B:=BwwFlag) (fn:=Go.Proofs.Try.f45) BwwFlag.ok (by kernel_rfl) rfl (by kernel_rfl) (by kernel_rfl) (by decide) (by decide) ?_
 ·intro E args ks C r h hC hlen
  simp only at h
  unfold SwwFlag at h
  split at h
  rotate_left
  ·cases h
  rename_i p0 p3 p1 p2
  cases h
  simp only [lens] at hlen
  have hEp1:=hC.1
  have hC:=hC.2
  subst hEp1
  refine ⟨show 2≤12 from by decide,?_⟩
  refine Tri.sub (Sub.of_eq (show _=([(0,.sc (.sl 0 0 p0 1 none)),(1,.sc (.b p3))],[(0,.ints .u8 p0 p2)]) from rfl)) ?_
  refine Tri.seq_region [] none [0,1] [0] (TT∧True)
    ([(0,.sc (.sl 0 0 p0 1 none)),(1,.sc (.b p3))],[(0,.ints .u8 p0 p2)])
    32 (by kernel_rfl) rfl (by kernel_rfl) (⟨tt,trivial⟩) ?_
  refine Tri.seq ?_
  refine Tri.seq_region [] none [5,0] [0] (TT∧True)
    ([(5,.sc (.b p3)),(0,.sc (.sl 0 0 p0 1 none))],[(0,.ints .u8 p0 p2)])
    48 (by kernel_rfl) rfl (by kernel_rfl) (⟨tt,trivial⟩) ?_
  refine Tri.cond (x:=p3) (by kernel_rfl) (fun h1 => ?_) (fun h1 => ?_)
  ·
   refine Tri.len 0 rfl (fun hl2 => ?_)
   refine Tri.seq_region [] none [4] [80] (TT∧((((((0 < 1)∧(1=1))∧True)∧((1 * 1≤16777216)∧(1=1)))∧True)∧((((((True∧(1=1))∧((0 < 1)∧(((p0 + 1) * 1≤140737488355328)∧(p0 + 1≤140737488355328))))∧(1=1 * 1))∧((1=1)∧(0 + p0 * 1=p0)))∧True)∧(TT∧True))))
     ([(4,.sc (.sl 80 0 (p0 + 1) 1 none))],[(80,.ints .u8 (p0 + 1) (p2 ++ [1]))])
     112 (by kernel_rfl) rfl (by kernel_rfl) (⟨tt,⟨⟨⟨⟨⟨(by first | omega | (rw [adr_eq]; omega) | exact iAnd_nn _ _ | exact iSub_nn _ _ | exact part1_le (by omega) (by first | omega | (simp only [List.length_append]; omega)) | decide),(rfl)⟩,trivial⟩,⟨(by first | omega | (rw [adr_eq]; omega) | exact iAnd_nn _ _ | exact iSub_nn _ _ | exact part1_le (by omega) (by first | omega | (simp only [List.length_append]; omega)) | decide),(rfl)⟩⟩,trivial⟩,⟨⟨⟨⟨⟨⟨trivial,(rfl)⟩,⟨(by first | omega | (rw [adr_eq]; omega) | exact iAnd_nn _ _ | exact iSub_nn _ _ | exact part1_le (by omega) (by first | omega | (simp only [List.length_append]; omega)) | decide),⟨(by first | omega | (rw [adr_eq]; omega) | exact iAnd_nn _ _ | exact iSub_nn _ _ | exact part1_le (by omega) (by first | omega | (simp only [List.length_append]; omega)) | decide),(by first | omega | (rw [adr_eq]; omega) | exact iAnd_nn _ _ | exact iSub_nn _ _ | exact part1_le (by omega) (by first | omega | (simp only [List.length_append]; omega)) | decide)⟩⟩⟩,(by first | omega | (rw [adr_eq]; omega) | exact iAnd_nn _ _ | exact iSub_nn _ _ | exact part1_le (by omega) (by first | omega | (simp only [List.length_append]; omega)) | decide)⟩,⟨(rfl),(by first | omega | (rw [adr_eq]; omega) | exact iAnd_nn _ _ | exact iSub_nn _ _ | exact part1_le (by omega) (by first | omega | (simp only [List.length_append]; omega)) | decide)⟩⟩,trivial⟩,⟨tt,trivial⟩⟩⟩⟩) ?_
   refine Tri.ret ?_
   repeat (first | refine thenP_ret ?_ | refine blkP_ret ?_ | refine countP_ret ?_ | refine joinP_ret ?_ | refine iterP_ret ?_)
   refine endP.conv (r':=⟨.sc (.sl 1 0 (p0 + 1) 1 none),[none,some (.ints .u8 (p0 + 1) (p2 ++ [1]))]⟩) (by simp only [FwwFlag,h1,sel_true,sel_false]) ?_
   exact endP.ret [(80,1)] TT (by kernel_rfl) (by kernel_rfl) tt
  ·
   refine Tri.skip ?_
   change Tri _ _ _ _ _ _
   refine Tri.len 0 rfl (fun hl3 => ?_)
   refine Tri.seq_region [] none [4] [80] (TT∧((((((0 < 1)∧(1=1))∧True)∧((1 * 1≤16777216)∧(1=1)))∧True)∧((((((True∧(1=1))∧((0 < 1)∧(((p0 + 1) * 1≤140737488355328)∧(p0 + 1≤140737488355328))))∧(1=1 * 1))∧((1=1)∧(0 + p0 * 1=p0)))∧True)∧(TT∧True))))
     ([(4,.sc (.sl 80 0 (p0 + 1) 1 none))],[(80,.ints .u8 (p0 + 1) (p2 ++ [0]))])
     112 (by kernel_rfl) rfl (by kernel_rfl) (⟨tt,⟨⟨⟨⟨⟨(by first | omega | (rw [adr_eq]; omega) | exact iAnd_nn _ _ | exact iSub_nn _ _ | exact part1_le (by omega) (by first | omega | (simp only [List.length_append]; omega)) | decide),(rfl)⟩,trivial⟩,⟨(by first | omega | (rw [adr_eq]; omega) | exact iAnd_nn _ _ | exact iSub_nn _ _ | exact part1_le (by omega) (by first | omega | (simp only [List.length_append]; omega)) | decide),(rfl)⟩⟩,trivial⟩,⟨⟨⟨⟨⟨⟨trivial,(rfl)⟩,⟨(by first | omega | (rw [adr_eq]; omega) | exact iAnd_nn _ _ | exact iSub_nn _ _ | exact part1_le (by omega) (by first | omega | (simp only [List.length_append]; omega)) | decide),⟨(by first | omega | (rw [adr_eq]; omega) | exact iAnd_nn _ _ | exact iSub_nn _ _ | exact part1_le (by omega) (by first | omega | (simp only [List.length_append]; omega)) | decide),(by first | omega | (rw [adr_eq]; omega) | exact iAnd_nn _ _ | exact iSub_nn _ _ | exact part1_le (by omega) (by first | omega | (simp only [List.length_append]; omega)) | decide)⟩⟩⟩,(by first | omega | (rw [adr_eq]; omega) | exact iAnd_nn _ _ | exact iSub_nn _ _ | exact part1_le (by omega) (by first | omega | (simp only [List.length_append]; omega)) | decide)⟩,⟨(rfl),(by first | omega | (rw [adr_eq]; omega) | exact iAnd_nn _ _ | exact iSub_nn _ _ | exact part1_le (by omega) (by first | omega | (simp only [List.length_append]; omega)) | decide)⟩⟩,trivial⟩,⟨tt,trivial⟩⟩⟩⟩) ?_
   refine Tri.ret ?_
   repeat (first | refine thenP_ret ?_ | refine blkP_ret ?_ | refine countP_ret ?_ | refine joinP_ret ?_ | refine iterP_ret ?_)
   refine endP.conv (r':=⟨.sc (.sl 1 0 (p0 + 1) 1 none),[none,some (.ints .u8 (p0 + 1) (p2 ++ [0]))]⟩) (by simp only [FwwFlag,h1,sel_true,sel_false]) ?_
   exact endP.ret [(80,1)] TT (by kernel_rfl) (by kernel_rfl) tt
end Go.Vm
