/- Loops, and what a walk says of a call. -/
import Derived.Test.YtclfmaifcelcpaaDoorVmP
import Derived.Deep.LoopGhost
import Derived.Laws.Externs
set_option linter.unusedVariables false
set_option linter.unusedSimpArgs false
namespace Go.Vm
open Go

variable {B : Bs} {E : Env} {U : Nat} {s : St} {Q : Post}

theorem Sub.ren {U' : Nat} {ns : Ren} {kf : List Nat} {s' : St} (h : renOk ns U' = true) (hs : renSt ns kf s = some s') : Sub U s U' s' := by
  rintro E n a w ⟨σ, h1, h2⟩
  refine ⟨sigOf σ ns, StR.ren h hs h1, fun m hm => ?_⟩
  unfold sigOf
  split
  · rename_i b hb
    have hmem := look_mem hb
    unfold turned at hmem
    obtain ⟨p, hp, he⟩ := List.mem_map.1 hmem
    simp only [Prod.mk.injEq] at he
    obtain ⟨rfl, rfl⟩ := he
    have := (renOk_mem h (show (p.1, p.2) ∈ ns from hp)).2.1
    omega
  · rfl

/-- What stands behind a round: nearer to the end, and as the round found it. -/
def loopP {α : Type} (U0 : Nat) (μ : α → Nat) (J : α → Prop) (st : α → St) (x : α) (Q : Post) : Post
  | .normal, U, s => ∃ x', μ x' < μ x ∧ J x' ∧ Sub U s U0 (st x')
  | e, U, s => Q e U s

theorem Tri.loop {α : Type} {c : Code} {U0 : Nat} (μ : α → Nat) (J : α → Prop) (st : α → St) (x0 : α) (hJ : J x0) (h0 : Sub U s U0 (st x0)) (round : ∀ x, J x → Tri B E c U0 (st x) (loopP U0 μ J st x Q)) : Tri B E (.loop c) U s Q := by
  intro hB a w g
  refine wp_loop_ghost (fun m a w => ∃ x, μ x = m ∧ J x ∧ Good E B.n U0 (st x) a w) (μ x0) ⟨x0, rfl, hJ, h0 _ _ _ _ g⟩ ?_
  rintro m a w ⟨x, rfl, hJx, gx⟩
  refine wp_mono (round x hJx hB a w gx) ?_
  rintro e a' w' ⟨U', s', h1, h2⟩
  cases e with
  | normal =>
    obtain ⟨x', q1, q2, q3⟩ := h2
    exact ⟨μ x', q1, x', rfl, q2, q3 _ _ _ _ h1⟩
  | exit id => exact ⟨U', s', h1, h2⟩
  | goto l => exact ⟨U', s', h1, h2⟩
  | ret => exact ⟨U', s', h1, h2⟩
  | panic ch => exact ⟨U', s', h1, h2⟩
  | outgrown => exact ⟨U', s', h1, h2⟩

/-- One of two. -/
def sel {α : Type} (b : Bool) (x y : α) : α := bif b then x else y
theorem sel_true {α : Type} (x y : α) : sel true x y = x := Eq.trans (b := x) rfl rfl
theorem sel_false {α : Type} (x y : α) : sel false x y = y := Eq.trans (b := y) rfl rfl
theorem sel_eq {α : Type} (b : Bool) (x y : α) : sel b x y = bif b then x else y := by cases b <;> rfl

/-- n rounds, the number of each at hand. -/
def itr {α : Type} (f : Nat → α → α) : Nat → α → α
  | 0, x => x
  | k + 1, x => f k (itr f k x)

theorem itr_zero {α : Type} (f : Nat → α → α) (x : α) : itr f 0 x = x := rfl
theorem itr_succ {α : Type} (f : Nat → α → α) (k : Nat) (x : α) : itr f (k + 1) x = f k (itr f k x) := rfl
attribute [irreducible] itr

/-! ### results -/
/-- What comes back: a value, and the new blocks that it names: 0, 1, .. -/
structure Ret where
  v : AV
  bs : List Blk

def zipN : Nat → List Blk → Mem
  | _, [] => []
  | i, k :: r => (i, k) :: zipN (i + 1) r

/-- A call comes back so, whatever else there is. -/
def PureAt (P : Program) (G : Globs) (f : FuncId) (spec : List AV → Option (Prop × Ret)) : Prop :=
  ∀ (E : Env) (w : World) (args : List AV) (Vs : Array Value) (C : Prop) (r : Ret), E.P = P → GlobsOk E G → MemR E (fun _ => .unset) [] w → All2 (AVR E fun _ => .unset) args Vs.toList → spec args = some (C, r) → C →
    Yields P f Vs w fun V w' => ∃ σ', AVR E σ' r.v V ∧ MemR E σ' (zipN 0 r.bs) w'

def Blk.a1 : Blk → A1
  | .ints k n xs => .ints k n xs
  | .cells l => .agg l

def a1Of : AV → Option A1
  | .sc s => some (.sc s)
  | .agg l => some (.agg l)
  | .ints k n xs => some (.ints k n xs)
  | .tup _ => none

def result1 (P : Program) (s : St) : ResultVar → Option (Prop × A1)
  | .tmp t => match look t s.1 with
    | some v => (match a1Of v with | some v' => some (True, v') | none => none)
    | none => none
  | .cell a t => match look a s.1, isAggT P t, sizeT P t with
    | some (.sc (.p b o)), some false, some _ => (match look b s.2 with | some k => (let r := k.at o; some (r.1, .sc r.2)) | none => none)
    | some (.sc (.p b o)), some true, some z => (match look b s.2 with | some k => (let r := k.sub o z; some (r.1, r.2.a1)) | none => none)
    | _, _, _ => none

def resultsOf (P : Program) (s : St) : List ResultVar → Option (Prop × List A1)
  | [] => some (True, [])
  | x :: r => match result1 P s x with
    | none => none
    | some (C, v) => match resultsOf P s r with
      | none => none
      | some (C', vs) => some (C ∧ C', v :: vs)

def wrap1 : List A1 → AV
  | [v] => v.up
  | l => .tup l

/-- What the function's own names come to where it ends. -/
def finish (P : Program) (rs : List ResultVar) (ns : Ren) (s : St) : Option (Prop × Ret) :=
  match resultsOf P s rs with
  | none => none
  | some (C, l) => match (wrap1 l).ren ns, renMem ns s.2 ns with
    | some v, some M => some (C, ⟨v, M.map (·.2)⟩)
    | _, _ => none

/-- The names are 0, 1, .. in this order. -/
def namesOk : Nat → Ren → Bool
  | _, [] => true
  | i, (_, c) :: r => Nat.beq c i && namesOk (i + 1) r

theorem renMem_zip {ns : Ren} {M : Mem} : ∀ {rs : Ren} {i : Nat} {M' : Mem}, namesOk i rs = true → renMem ns M rs = some M' → M' = zipN i (M'.map (·.2))
  | [], i, M', _, h => by
    simp only [renMem, Option.some.injEq] at h
    subst h
    rfl
  | (b, c) :: r, i, M', hn, h => by
    simp only [namesOk, Bool.and_eq_true] at hn
    simp only [renMem] at h
    split at h
    · cases h
    · split at h
      · rename_i k' M'' e1 e2
        simp only [Option.some.injEq] at h
        subst h
        have := renMem_zip hn.2 e2
        simp only [List.map_cons, zipN]
        rw [Nat.eq_of_beq_eq_true hn.1]
        congr 1
      · cases h

def endP (P : Program) (rs : List ResultVar) (r : Ret) : Post
  | .normal, _, s | .ret, _, s => ∃ ns C, renOk ns ns.length = true ∧ namesOk 0 ns = true ∧ finish P rs ns s = some (C, r) ∧ C
  | _, _, _ => False

theorem a1Of_R {σ : Sig} {v : AV} {v' : A1} {V : Value} (h : a1Of v = some v') (hv : AVR E σ v V) : A1R E σ v' V := by
  cases v with
  | tup l => cases h
  | sc x => simp only [a1Of, Option.some.injEq] at h; subst h; exact hv
  | agg x => simp only [a1Of, Option.some.injEq] at h; subst h; exact hv
  | ints k n x => simp only [a1Of, Option.some.injEq] at h; subst h; exact hv

theorem Blk.a1_R {σ : Sig} {k : Blk} {V : Value} (hv : AVR E σ k.av V) : A1R E σ k.a1 V := by
  cases k <;> exact hv

def resultVal (a : Act) : ResultVar → Sem Value
  | .tmp t => pure (a.tmps.getD t undef)
  | .cell d t => do loadVar t (← asAddr (a.tmps.getD d undef))

theorem result1_run {P : Program} {σ : Sig} {a : Act} {w : World} {n : Nat} (hs : StR E n σ s.1 s.2 a w) {x : ResultVar} {C : Prop} {v : A1} (h : result1 P s x = some (C, v)) (hC : C) :
    ∃ V, (resultVal a x).run P w = .ok V w ∧ A1R E σ v V := by
  cases x with
  | tmp t =>
    simp only [result1] at h
    split at h
    · rename_i u hu
      split at h
      · rename_i v' hv'
        simp only [Option.some.injEq, Prod.mk.injEq] at h
        obtain ⟨_, rfl⟩ := h
        obtain ⟨V, h1, h2⟩ := hs.val t u hu
        exact ⟨V, by simp [resultVal, Array.getD_eq_getD_getElem?, h1], a1Of_R hv' h2⟩
      · cases h
    · cases h
  | cell d t =>
    simp only [result1] at h
    split at h
    · rename_i b o z hd hag hsz
      split at h
      · rename_i k hk
        simp only [Option.some.injEq, Prod.mk.injEq] at h
        obtain ⟨rfl, rfl⟩ := h
        obtain ⟨V, h1, L, hL, rfl⟩ := hs.val d _ hd
        have hB := hs.blk b k hk
        rw [hL] at hB
        obtain ⟨v, h3, h4⟩ := hB.read (Blk.at_get hB.1 hC)
        refine ⟨v, ?_, h4⟩
        simp [resultVal, Array.getD_eq_getD_getElem?, h1, asAddr, load_one hag h3]
      · cases h
    · rename_i b o z hd hag hsz
      split at h
      · rename_i k hk
        simp only [Option.some.injEq, Prod.mk.injEq] at h
        obtain ⟨rfl, rfl⟩ := h
        obtain ⟨V, h1, L, hL, rfl⟩ := hs.val d _ hd
        have hB := hs.blk b k hk
        rw [hL] at hB
        obtain ⟨cs, h3, h4, h5⟩ := hB.list hC
        refine ⟨.agg cs.toArray, ?_, Blk.a1_R h5.av⟩
        simp [resultVal, Array.getD_eq_getD_getElem?, h1, asAddr]
        exact load_many hag hsz h3 h4
      · cases h
    · cases h

theorem results_run {P : Program} {σ : Sig} {a : Act} {w : World} {n : Nat} (hs : StR E n σ s.1 s.2 a w) : ∀ {rs : List ResultVar} {l : List A1} {C : Prop}, resultsOf P s rs = some (C, l) → C →
    ∃ Vs : List Value, (rs.mapM (resultVal a)).run P w = .ok Vs w ∧ All2 (A1R E σ) l Vs
  | [], l, C, h, hC => by
    simp only [resultsOf, Option.some.injEq, Prod.mk.injEq] at h
    obtain ⟨_, rfl⟩ := h
    exact ⟨[], by simp, trivial⟩
  | x :: r, l, C, h, hC => by
    simp only [resultsOf] at h
    split at h
    · cases h
    · rename_i C1 v1 h1
      split at h
      · cases h
      · rename_i C2 vs h2
        simp only [Option.some.injEq, Prod.mk.injEq] at h
        obtain ⟨rfl, rfl⟩ := h
        obtain ⟨V, q1, q2⟩ := result1_run hs h1 hC.1
        obtain ⟨Vs, q3, q4⟩ := results_run hs h2 hC.2
        exact ⟨V :: Vs, by simp [q1, q3], q2, q4⟩

theorem A1.up_R {σ : Sig} {v : A1} {V : Value} (h : A1R E σ v V) : AVR E σ v.up V := by
  cases v <;> exact h

theorem wrap1_R {P : Program} {fn : Func} {σ : Sig} {a : Act} {w : World} {n : Nat} (hs : StR E n σ s.1 s.2 a w) {l : List A1} {C : Prop} (h : resultsOf P s fn.results.toList = some (C, l)) (hC : C) :
    ∃ V, (results fn a.tmps).run P w = .ok V w ∧ AVR E σ (wrap1 l) V := by
  obtain ⟨Vs, h1, h2⟩ := results_run hs h hC
  have hm : (fn.results.mapM (resultVal a)).run P w = .ok Vs.toArray w := by
    rw [Array.mapM_eq_mapM_toList]
    simp [h1]
  have hr : results fn a.tmps = (do let vs ← fn.results.mapM (resultVal a); pure (if h : vs.size = 1 then vs[0] else .tuple vs)) := rfl
  rw [hr]
  simp only [Sem.run_bind, hm, Result.andThen_ok, Sem.run_pure]
  refine ⟨_, rfl, ?_⟩
  match l, Vs, h2 with
  | [v], [V], h2 => exact A1.up_R h2.1
  | [], [], _ => exact ⟨_, rfl, trivial⟩
  | v :: v' :: r, V :: V' :: R, h2 => exact ⟨_, by simp, h2⟩

/-- How long the arguments' own cells are. -/
def lens : List AV → Prop
  | [] => True
  | .ints _ n xs :: r => xs.length = n ∧ lens r
  | .sc _ :: r => lens r
  | .agg _ :: r => lens r
  | .tup _ :: r => lens r

theorem lens_of {E : Env} {σ : Sig} : ∀ {args : List AV} {m : List Value}, All2 (AVR E σ) args m → lens args
  | [], [], _ => trivial
  | .ints _ _ _ :: r, V :: m, ⟨h1, h2⟩ => ⟨h1.1, lens_of h2⟩
  | .sc _ :: r, V :: m, ⟨h1, h2⟩ => lens_of (args := r) h2
  | .agg _ :: r, V :: m, ⟨h1, h2⟩ => lens_of (args := r) h2
  | .tup _ :: r, V :: m, ⟨h1, h2⟩ => lens_of (args := r) h2

/-- From the walk of a body. -/
theorem PureAt.of_walk {B : Bs} {f : FuncId} {fn : Func} {c : Code} {spec : List AV → Option (Prop × Ret)} (hok : B.Ok) (hf : B.P.funcs[f]? = some fn) (hb : fn.body = some c) (hn : (fn.name != "runtime.NumGoroutine") = true) (hnt : fn.ntmps = B.n)
    (h : ∀ (E : Env) (args : List AV) (C : Prop) (r : Ret), spec args = some (C, r) → C → lens args → args.length ≤ B.n ∧ Tri B E c 0 ((List.range args.length).zip args, []) (endP B.P fn.results.toList r)) : PureAt B.P B.G f spec := by
  intro E w args Vs C r hP hG hM hargs hsp hC
  obtain ⟨hlen, hw⟩ := h E args C r hsp hC (lens_of hargs)
  have hl : args.length = Vs.size := by simpa using hargs.length
  refine .inl ⟨by simp [entersB, hf, hb, hn], ?_⟩
  refine calls_of_wp hf hb ?_
  have good : Good E B.n 0 ((List.range args.length).zip args, []) { tmps := Vs ++ Array.replicate (fn.ntmps - Vs.size) undef, defers := [] } w := by
    refine ⟨fun _ => .unset, ?_, fun _ _ => rfl⟩
    refine { toMemR := hM, val := fun t v ht => ?_, defers := rfl, tmps := by simp; omega }
    have hmem := look_mem ht
    obtain ⟨j, hj⟩ := List.mem_iff_getElem?.1 hmem
    rw [List.getElem?_zip_eq_some] at hj
    obtain ⟨hj1, hj2⟩ := hj
    have hjt : j = t := by
      rw [List.getElem?_range] at hj1
      · simpa using hj1
      · rw [List.getElem?_eq_some_iff] at hj2
        obtain ⟨q, _⟩ := hj2
        exact q
    subst hjt
    obtain ⟨V, q1, q2⟩ := hargs.get j v hj2
    refine ⟨V, ?_, q2⟩
    have hlt : j < Vs.size := by
      rw [Array.getElem?_toList] at q1
      rw [Array.getElem?_eq_some_iff] at q1
      exact q1.1
    rw [Array.getElem?_append_left hlt]
    simpa using q1
  refine wp_mono (hw ⟨hP, hG, hok⟩ _ w good) ?_
  rintro e a' w' ⟨U', s', ⟨σ, g1, g2⟩, hq⟩
  have fin : (∃ ns C, renOk ns ns.length = true ∧ namesOk 0 ns = true ∧ finish B.P fn.results.toList ns s' = some (C, r) ∧ C) →
      a'.defers = [] ∧ ∃ v, (results fn a'.tmps).run B.P w' = .ok v w' ∧ ∃ V, (Ending.returned v) = .returned V ∧ ∃ σ', AVR E σ' r.v V ∧ MemR E σ' (zipN 0 r.bs) w' := by
    rintro ⟨ns, C, n1, n2, n3, n4⟩
    unfold finish at n3
    split at n3
    · cases n3
    · rename_i C1 l hl
      split at n3
      · rename_i v M m1 m2
        simp only [Option.some.injEq, Prod.mk.injEq] at n3
        obtain ⟨rfl, rfl⟩ := n3
        obtain ⟨V, q1, q2⟩ := wrap1_R g1 hl n4
        refine ⟨g1.defers, V, q1, V, rfl, sigOf σ ns, AV.ren_R n1 m1 q2, ?_⟩
        have hz := renMem_zip n2 m2
        have := StR.ren (kf := []) (s := s') (s' := ([], M)) n1 (by simp [renSt, renFr, m2]) g1
        have hM' := this.toMemR
        simp only at hM' ⊢
        rw [← hz]
        exact hM'
      · cases n3
  cases e with
  | normal => exact fin hq
  | ret => exact fin hq
  | exit id => exact hq.elim
  | goto l => exact hq.elim
  | panic ch => exact hq.elim
  | outgrown => exact hq.elim

end Go.Vm
