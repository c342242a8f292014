/- Loops, and what a walk says of a call. -/
import Derived.Test.YtfkmfdjdppjijaaVnP
import Derived.Deep.LoopGhost
import Derived.Laws.Externs
set_option linter.unusedVariables false
set_option linter.unusedSimpArgs false
namespace Go.Vm
open Go

variable {B : Bs} {E : Env} {U : Nat} {s : St} {Q : Post}

/-- Names below 16 keep their names. -/
def ren16 (ns : Ren) (m : Nat) : Bool := ns.all fun p => Nat.ble m p.2 || Nat.beq p.1 p.2
theorem ren16_at {ns : Ren} {m b c : Nat} (h : ren16 ns m = true) (hb : (b, c) ∈ ns) (hc : c < m) : b = c := by
  unfold ren16 at h
  rw [List.all_eq_true] at h
  have h1 := h _ hb
  simp only [Bool.or_eq_true] at h1
  rcases h1 with h1 | h1
  · have := Nat.le_of_ble_eq_true h1
    omega
  · exact Nat.eq_of_beq_eq_true h1
theorem sigOf_keep {κ σ : Sig} {ns : Ren} {m : Nat} (hm : m ≤ 16) (h : ren16 ns m = true) (hk : Keep κ σ) {j : Nat} (hj : j < m) : sigOf σ ns j = κ j ∨ sigOf σ ns j = .unset := by
  unfold sigOf
  split
  · rename_i b hb
    have hmem := look_mem hb
    unfold turned at hmem
    obtain ⟨p, hp, he⟩ := List.mem_map.1 hmem
    simp only [Prod.mk.injEq] at he
    obtain ⟨rfl, rfl⟩ := he
    have := ren16_at h (show (p.1, p.2) ∈ ns from hp) hj
    rw [this]
    exact hk p.2 (by omega)
  · exact .inr rfl

theorem Sub.ren {U' : Nat} {ns : Ren} {kf : List Nat} {s' : St} (h : (renOk ns U' && ren16 ns 16 && Nat.ble 16 U') = true) (hs : renSt ns kf s = some s') : Sub U s U' s' := by
  simp only [Bool.and_eq_true] at h
  obtain ⟨⟨h, h5⟩, h6⟩ := h
  apply Sub.of1
  rintro E κ n a w ⟨σ, h1, h2, h3, h4⟩
  refine ⟨sigOf σ ns, StR.ren h hs h1, fun m hm => ?_, fun j hj => sigOf_keep (Nat.le_refl _) h5 h3 hj, Nat.le_of_ble_eq_true h6⟩
  unfold sigOf
  split
  · rename_i b hb
    have hmem := look_mem hb
    unfold turned at hmem
    obtain ⟨p, hp, he⟩ := List.mem_map.1 hmem
    simp only [Prod.mk.injEq] at he
    obtain ⟨rfl, rfl⟩ := he
    have := (renOk_mem h (show (p.1, p.2) ∈ ns from hp)).2.1
    omega
  · rfl

/-- What stands behind a round: nearer to the end, and as the round found it. -/
def loopP {α : Type} (U0 : Nat) (μ : α → Nat) (J : α → Prop) (st : α → St) (x : α) (Q : Post) : Post
  | .normal, U, s => ∃ x', μ x' < μ x ∧ J x' ∧ Sub U s U0 (st x')
  | e, U, s => Q e U s

theorem Tri.loop {α : Type} {c : Code} {U0 : Nat} (μ : α → Nat) (J : α → Prop) (st : α → St) (x0 : α) (hJ : J x0) (h0 : Sub U s U0 (st x0)) (round : ∀ x, J x → Tri B E c U0 (st x) (loopP U0 μ J st x Q)) : Tri B E (.loop c) U s Q := by
  intro hB a w g
  refine wp_loop_ghost (fun m a w => ∃ x, μ x = m ∧ J x ∧ Good E B.n U0 (st x) a w) (μ x0) ⟨x0, rfl, hJ, h0 _ _ _ _ g⟩ ?_
  rintro m a w ⟨x, rfl, hJx, gx⟩
  refine wp_mono (round x hJx hB a w gx) ?_
  rintro e a' w' ⟨U', s', h1, h2⟩
  cases e with
  | normal =>
    obtain ⟨x', q1, q2, q3⟩ := h2
    exact ⟨μ x', q1, x', rfl, q2, q3 _ _ _ _ h1⟩
  | exit id => exact ⟨U', s', h1, h2⟩
  | goto l => exact ⟨U', s', h1, h2⟩
  | ret => exact ⟨U', s', h1, h2⟩
  | panic ch => exact ⟨U', s', h1, h2⟩
  | outgrown => exact ⟨U', s', h1, h2⟩

/-- One of two. -/
def sel {α : Type} (b : Bool) (x y : α) : α := bif b then x else y
theorem sel_true {α : Type} (x y : α) : sel true x y = x := Eq.trans (b := x) rfl rfl
theorem sel_false {α : Type} (x y : α) : sel false x y = y := Eq.trans (b := y) rfl rfl
theorem sel_eq {α : Type} (b : Bool) (x y : α) : sel b x y = bif b then x else y := by cases b <;> rfl

/-- n rounds, the number of each at hand. -/
def itr {α : Type} (f : Nat → α → α) : Nat → α → α
  | 0, x => x
  | k + 1, x => f k (itr f k x)

theorem itr_zero {α : Type} (f : Nat → α → α) (x : α) : itr f 0 x = x := rfl
theorem itr_succ {α : Type} (f : Nat → α → α) (k : Nat) (x : α) : itr f (k + 1) x = f k (itr f k x) := rfl
attribute [irreducible] itr

/-! ### results -/
/-- What comes back: a value, and what is then known of the blocks that were handed in (0, 1, .. below m) and of the new ones behind them (m, ..). -/
structure Ret where
  v : AV
  bs : List (Option Blk)

def zipN : Nat → List Blk → Mem
  | _, [] => []
  | i, k :: r => (i, k) :: zipN (i + 1) r
def zipO : Nat → List (Option Blk) → Mem
  | _, [] => []
  | i, none :: r => zipO (i + 1) r
  | i, some k :: r => (i, k) :: zipO (i + 1) r

/-- A call comes back so, whatever else there is: m blocks are handed in. -/
def PureAt (P : Program) (G : Globs) (f : FuncId) (m : Nat) (spec : List AV → List Blk → Option (Prop × Ret)) : Prop :=
  ∀ (E : Env) (w : World) (args : List AV) (ks : List Blk) (Vs : Array Value) (C : Prop) (r : Ret), E.P = P → GlobsOk E G → ks.length = m → (∀ j, m ≤ j → E.kp j = .unset) → MemR E E.kp (zipN 0 ks) w → All2 (AVR E E.kp) args Vs.toList → spec args ks = some (C, r) → C →
    Yields P f Vs w fun V w' => ∃ E' σ', Grow E E' ∧ (∀ j, j < m → σ' j = E.kp j ∨ σ' j = .unset) ∧ AVR E' σ' r.v V ∧ MemR E' σ' (zipO 0 r.bs) w'

def Blk.a1 : Blk → A1
  | .ints k n xs => .ints k n xs
  | .cells l => .agg l
  | .vec v xs => .agg (xs.map v.sc)

def a1Of : AV → Option A1
  | .sc s => some (.sc s)
  | .agg l => some (.agg l)
  | .ints k n xs => some (.ints k n xs)
  | .tup _ => none

def result1 (P : Program) (s : St) : ResultVar → Option (Prop × A1)
  | .tmp t => match look t s.1 with
    | some v => (match a1Of v with | some v' => some (True, v') | none => none)
    | none => none
  | .cell a t => match look a s.1, isAggT P t, sizeT P t with
    | some (.sc (.p b o)), some false, some _ => (match look b s.2 with | some k => (let r := k.at o; some (r.1, .sc r.2)) | none => none)
    | some (.sc (.p b o)), some true, some z => (match look b s.2 with | some k => (let r := k.sub o z; some (r.1, r.2.a1)) | none => none)
    | _, _, _ => none

def resultsOf (P : Program) (s : St) : List ResultVar → Option (Prop × List A1)
  | [] => some (True, [])
  | x :: r => match result1 P s x with
    | none => none
    | some (C, v) => match resultsOf P s r with
      | none => none
      | some (C', vs) => some (C ∧ C', v :: vs)

def wrap1 : List A1 → AV
  | [v] => v.up
  | l => .tup l

/-- What the function's own names come to where it ends. -/
def finish (P : Program) (rs : List ResultVar) (ns : Ren) (tot : Nat) (s : St) : Option (Prop × Ret) :=
  match resultsOf P s rs with
  | none => none
  | some (C, l) => match (wrap1 l).ren ns, renMem ns s.2 ns with
    | some v, some M => some (C, ⟨v, (List.range tot).map fun j => look j M⟩)
    | _, _ => none

theorem zipO_look {f : Nat → Option Blk} : ∀ (n i c : Nat) (k : Blk), look c (zipO i ((List.range' i n).map f)) = some k → f c = some k
  | 0, i, c, k, h => by cases h
  | n + 1, i, c, k, h => by
    rw [List.range'_succ, List.map_cons] at h
    cases hf : f i with
    | none =>
      rw [hf] at h
      exact zipO_look n (i + 1) c k h
    | some x =>
      rw [hf] at h
      simp only [zipO, look] at h
      by_cases e : i = c
      · subst e
        simp only [beqT, cond_true, Option.some.injEq] at h
        rw [hf, h]
      · simp only [beqF e, cond_false] at h
        exact zipO_look n (i + 1) c k h

theorem MemR.less {σ : Sig} {M M' : Mem} {w : World} (h : MemR E σ M w) (hM : ∀ b k, look b M' = some k → look b M = some k) : MemR E σ M' w :=
  { blk := fun b k hb => h.blk b k (hM b k hb)
    inj := fun b c x y L L' hb hc => h.inj b c x y L L' (hM b x hb) (hM c y hc)
    old := h.old
    size := h.size
    olds := h.olds
    os := h.os
    tape := h.tape
    output := h.output }

def endP (P : Program) (rs : List ResultVar) (m : Nat) (r : Ret) : Post
  | .normal, _, s | .ret, _, s => ∃ ns C, (renOk ns r.bs.length && ren16 ns m) = true ∧ finish P rs ns r.bs.length s = some (C, r) ∧ C
  | _, _, _ => False

theorem a1Of_R {σ : Sig} {v : AV} {v' : A1} {V : Value} (h : a1Of v = some v') (hv : AVR E σ v V) : A1R E σ v' V := by
  cases v with
  | tup l => cases h
  | sc x => simp only [a1Of, Option.some.injEq] at h; subst h; exact hv
  | agg x => simp only [a1Of, Option.some.injEq] at h; subst h; exact hv
  | ints k n x => simp only [a1Of, Option.some.injEq] at h; subst h; exact hv

theorem Blk.a1_R {σ : Sig} {k : Blk} {V : Value} (hv : AVR E σ k.av V) : A1R E σ k.a1 V := by
  cases k <;> exact hv

def resultVal (a : Act) : ResultVar → Sem Value
  | .tmp t => pure (a.tmps.getD t undef)
  | .cell d t => do loadVar t (← asAddr (a.tmps.getD d undef))

theorem result1_run {P : Program} {σ : Sig} {a : Act} {w : World} {n : Nat} (hs : StR E n σ s.1 s.2 a w) {x : ResultVar} {C : Prop} {v : A1} (h : result1 P s x = some (C, v)) (hC : C) :
    ∃ V, (resultVal a x).run P w = .ok V w ∧ A1R E σ v V := by
  cases x with
  | tmp t =>
    simp only [result1] at h
    split at h
    · rename_i u hu
      split at h
      · rename_i v' hv'
        simp only [Option.some.injEq, Prod.mk.injEq] at h
        obtain ⟨_, rfl⟩ := h
        obtain ⟨V, h1, h2⟩ := hs.val t u hu
        exact ⟨V, by simp [resultVal, Array.getD_eq_getD_getElem?, h1], a1Of_R hv' h2⟩
      · cases h
    · cases h
  | cell d t =>
    simp only [result1] at h
    split at h
    · rename_i b o z hd hag hsz
      split at h
      · rename_i k hk
        simp only [Option.some.injEq, Prod.mk.injEq] at h
        obtain ⟨rfl, rfl⟩ := h
        obtain ⟨V, h1, L, hL, rfl⟩ := hs.val d _ hd
        have hB := hs.blk b k hk
        rw [hL] at hB
        obtain ⟨v, h3, h4⟩ := hB.read (Blk.at_get hB.1 hC)
        refine ⟨v, ?_, h4⟩
        simp [resultVal, Array.getD_eq_getD_getElem?, h1, asAddr, load_one hag h3]
      · cases h
    · rename_i b o z hd hag hsz
      split at h
      · rename_i k hk
        simp only [Option.some.injEq, Prod.mk.injEq] at h
        obtain ⟨rfl, rfl⟩ := h
        obtain ⟨V, h1, L, hL, rfl⟩ := hs.val d _ hd
        have hB := hs.blk b k hk
        rw [hL] at hB
        obtain ⟨cs, h3, h4, h5⟩ := hB.list hC
        refine ⟨.agg cs.toArray, ?_, Blk.a1_R h5.av⟩
        simp [resultVal, Array.getD_eq_getD_getElem?, h1, asAddr]
        exact load_many hag hsz h3 h4
      · cases h
    · cases h

theorem results_run {P : Program} {σ : Sig} {a : Act} {w : World} {n : Nat} (hs : StR E n σ s.1 s.2 a w) : ∀ {rs : List ResultVar} {l : List A1} {C : Prop}, resultsOf P s rs = some (C, l) → C →
    ∃ Vs : List Value, (rs.mapM (resultVal a)).run P w = .ok Vs w ∧ All2 (A1R E σ) l Vs
  | [], l, C, h, hC => by
    simp only [resultsOf, Option.some.injEq, Prod.mk.injEq] at h
    obtain ⟨_, rfl⟩ := h
    exact ⟨[], by simp, trivial⟩
  | x :: r, l, C, h, hC => by
    simp only [resultsOf] at h
    split at h
    · cases h
    · rename_i C1 v1 h1
      split at h
      · cases h
      · rename_i C2 vs h2
        simp only [Option.some.injEq, Prod.mk.injEq] at h
        obtain ⟨rfl, rfl⟩ := h
        obtain ⟨V, q1, q2⟩ := result1_run hs h1 hC.1
        obtain ⟨Vs, q3, q4⟩ := results_run hs h2 hC.2
        exact ⟨V :: Vs, by simp [q1, q3], q2, q4⟩

theorem A1.up_R {σ : Sig} {v : A1} {V : Value} (h : A1R E σ v V) : AVR E σ v.up V := by
  cases v <;> exact h

theorem wrap1_R {P : Program} {fn : Func} {σ : Sig} {a : Act} {w : World} {n : Nat} (hs : StR E n σ s.1 s.2 a w) {l : List A1} {C : Prop} (h : resultsOf P s fn.results.toList = some (C, l)) (hC : C) :
    ∃ V, (results fn a.tmps).run P w = .ok V w ∧ AVR E σ (wrap1 l) V := by
  obtain ⟨Vs, h1, h2⟩ := results_run hs h hC
  have hm : (fn.results.mapM (resultVal a)).run P w = .ok Vs.toArray w := by
    rw [Array.mapM_eq_mapM_toList]
    simp [h1]
  have hr : results fn a.tmps = (do let vs ← fn.results.mapM (resultVal a); pure (if h : vs.size = 1 then vs[0] else .tuple vs)) := rfl
  rw [hr]
  simp only [Sem.run_bind, hm, Result.andThen_ok, Sem.run_pure]
  refine ⟨_, rfl, ?_⟩
  match l, Vs, h2 with
  | [v], [V], h2 => exact A1.up_R h2.1
  | [], [], _ => exact ⟨_, rfl, trivial⟩
  | v :: v' :: r, V :: V' :: R, h2 => exact ⟨_, by simp, h2⟩

/-- How long the arguments' own cells are. -/
def lens : List AV → Prop
  | [] => True
  | .ints _ n xs :: r => xs.length = n ∧ lens r
  | .sc _ :: r => lens r
  | .agg _ :: r => lens r
  | .tup _ :: r => lens r

theorem lens_of {E : Env} {σ : Sig} : ∀ {args : List AV} {m : List Value}, All2 (AVR E σ) args m → lens args
  | [], [], _ => trivial
  | .ints _ _ _ :: r, V :: m, ⟨h1, h2⟩ => ⟨h1.1, lens_of h2⟩
  | .sc _ :: r, V :: m, ⟨h1, h2⟩ => lens_of (args := r) h2
  | .agg _ :: r, V :: m, ⟨h1, h2⟩ => lens_of (args := r) h2
  | .tup _ :: r, V :: m, ⟨h1, h2⟩ => lens_of (args := r) h2

/-- From the walk of a body. -/
theorem PureAt.of_walk {B : Bs} {f : FuncId} {fn : Func} {c : Code} {m : Nat} {spec : List AV → List Blk → Option (Prop × Ret)} (hok : B.Ok) (hf : B.P.funcs[f]? = some fn) (hb : fn.body = some c) (hn : (fn.name != "runtime.NumGoroutine") = true) (hnt : fn.ntmps = B.n) (hm : m ≤ 16)
    (h : ∀ (E : Env) (args : List AV) (ks : List Blk) (C : Prop) (r : Ret), spec args ks = some (C, r) → C → lens args → args.length ≤ B.n ∧ Tri B E c 16 ((List.range args.length).zip args, zipN 0 ks) (endP B.P fn.results.toList m r)) : PureAt B.P B.G f m spec := by
  intro E w args ks Vs C r hP hG hks hkp hM hargs hsp hC
  obtain ⟨hlen, hw⟩ := h E args ks C r hsp hC (lens_of hargs)
  have hl : args.length = Vs.size := by simpa using hargs.length
  refine .inl ⟨by simp [entersB, hf, hb, hn], ?_⟩
  refine calls_of_wp hf hb ?_
  have good : Good E B.n 16 ((List.range args.length).zip args, zipN 0 ks) { tmps := Vs ++ Array.replicate (fn.ntmps - Vs.size) undef, defers := [] } w := by
    refine ⟨E, .refl E, E.kp, ?_, fun j hj => hkp j (by omega), fun _ _ => .inl rfl, Nat.le_refl _⟩
    refine { toMemR := hM, val := fun t v ht => ?_, defers := rfl, tmps := by simp; omega }
    have hmem := look_mem ht
    obtain ⟨j, hj⟩ := List.mem_iff_getElem?.1 hmem
    rw [List.getElem?_zip_eq_some] at hj
    obtain ⟨hj1, hj2⟩ := hj
    have hjt : j = t := by
      rw [List.getElem?_range] at hj1
      · simpa using hj1
      · rw [List.getElem?_eq_some_iff] at hj2
        obtain ⟨q, _⟩ := hj2
        exact q
    subst hjt
    obtain ⟨V, q1, q2⟩ := hargs.get j v hj2
    refine ⟨V, ?_, q2⟩
    have hlt : j < Vs.size := by
      rw [Array.getElem?_toList] at q1
      rw [Array.getElem?_eq_some_iff] at q1
      exact q1.1
    rw [Array.getElem?_append_left hlt]
    simpa using q1
  refine wp_mono (hw ⟨hP, hG, hok⟩ _ w good) ?_
  rintro e a' w' ⟨U', s', ⟨E', hgr, σ, g1, g2, g3, g4⟩, hq⟩
  have fin : (∃ ns C, (renOk ns r.bs.length && ren16 ns m) = true ∧ finish B.P fn.results.toList ns r.bs.length s' = some (C, r) ∧ C) →
      a'.defers = [] ∧ ∃ v, (results fn a'.tmps).run B.P w' = .ok v w' ∧ ∃ V, (Ending.returned v) = .returned V ∧ ∃ E' σ', Grow E E' ∧ (∀ j, j < m → σ' j = E.kp j ∨ σ' j = .unset) ∧ AVR E' σ' r.v V ∧ MemR E' σ' (zipO 0 r.bs) w' := by
    rintro ⟨ns, C, n1, n3, n4⟩
    simp only [Bool.and_eq_true] at n1
    obtain ⟨n1, n2⟩ := n1
    unfold finish at n3
    split at n3
    · cases n3
    · rename_i C1 l hl
      split at n3
      · rename_i v M m1 m2
        simp only [Option.some.injEq, Prod.mk.injEq] at n3
        obtain ⟨rfl, hr⟩ := n3
        obtain ⟨V, q1, q2⟩ := wrap1_R g1 hl n4
        have hv : r.v = v := by rw [← hr]
        have hbs : r.bs = (List.range r.bs.length).map fun j => look j M := by
          conv => lhs; rw [← hr]
        refine ⟨g1.defers, V, q1, V, rfl, E', sigOf σ ns, hgr, fun j hj => sigOf_keep hm n2 g3 hj, by rw [hv]; exact AV.ren_R n1 m1 q2, ?_⟩
        have := StR.ren (kf := []) (s := s') (s' := ([], M)) n1 (by simp [renSt, renFr, m2]) g1
        have hM' := this.toMemR
        refine MemR.less (M := M) hM' fun b k hb => ?_
        rw [hbs, List.range_eq_range'] at hb
        exact zipO_look _ 0 b k hb
      · cases n3
  cases e with
  | normal => exact fin hq
  | ret => exact fin hq
  | exit id => exact hq.elim
  | goto l => exact hq.elim
  | panic ch => exact hq.elim
  | outgrown => exact hq.elim

end Go.Vm
