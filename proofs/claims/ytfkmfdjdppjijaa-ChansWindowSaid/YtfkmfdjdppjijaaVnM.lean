/- The small machine runs a region: in the order of the text, and in whatever order the region's edges allow. -/
import Derived.Test.YtfkmfdjdppjijaaVnL
set_option linter.unusedVariables false
set_option linter.unusedSimpArgs false
namespace Go.Vm
open Go

/-- What calls of Go functions are known to do. -/
abbrev Tab := FuncId → List AV → Nat → Option Deed

/-- A call of this function enters it. -/
def entersB (P : Program) (f : FuncId) : Bool :=
  match P.funcs[f]? with
  | some fn => (fn.name != "runtime.NumGoroutine") && fn.body.isSome
  | none => false

/-- A call comes back with a value of which R holds. -/
def Yields (P : Program) (f : FuncId) (Vs : Array Value) (w : World) (R : Value → World → Prop) : Prop :=
  (entersB P f = true ∧ Calls P f Vs w fun e w' => ∃ V, e = .returned V ∧ R V w') ∨ ∃ V w', (callFunc f Vs).run P w = .ok (.value V) w' ∧ R V w'

theorem Yields.mono {P : Program} {f : FuncId} {Vs : Array Value} {w : World} {R R' : Value → World → Prop} (h : Yields P f Vs w R) (hr : ∀ V w', R V w' → R' V w') : Yields P f Vs w R' := by
  rcases h with ⟨h1, h2⟩ | ⟨V, w', h1, h2⟩
  · exact .inl ⟨h1, h2.mono fun e w' ⟨V, e1, e2⟩ => ⟨V, e1, hr V w' e2⟩⟩
  · exact .inr ⟨V, w', h1, hr _ _ h2⟩

/-- One function's deeds are what its calls do. -/
def SoundAt (P : Program) (G : Globs) (f : FuncId) (spec : List AV → Nat → Option Deed) : Prop :=
  ∀ (E : Env) (σ : Sig) (M : Mem) (w : World) (args : List AV) (Vs : Array Value) (nm : Nat) (A : Deed) (C : Prop) (v : AV) (M' : Mem),
    E.P = P → GlobsOk E G → MemR E σ M w → All2 (AVR E σ) args Vs.toList → (∀ m, nm ≤ m → m < nm + 16 → σ m = .unset) → spec args nm = some A → A.run M = some (C, v, M') → C →
    Yields P f Vs w fun V w' => ∃ E' σ', Grow E E' ∧ Ext σ σ' ∧ (∀ m, ¬ (nm ≤ m ∧ m < nm + 16) → σ' m = σ m) ∧ AVR E' σ' v V ∧ MemR E' σ' M' w'

def TabOk (P : Program) (G : Globs) (tab : Tab) : Prop := ∀ f args nm A, tab f args nm = some A → ∃ spec, SoundAt P G f spec ∧ spec args nm = some A

/-- An activation, as far as a region asks. -/
structure Cx where
  P : Program
  G : Globs
  tab : Tab
  n : Nat
  hints : List (Nat × AV)
  base : Nat

/-- What a guard is told: a flag; or that there is none, since what would have made it was left out. -/
def seen1 (ops : Array Oper) (fr : Fr) (j : Nat) : Option (Option Bool) :=
  match ops[j]? with
  | some o => match o.dst with
    | some d => match look d fr with
      | some (.sc (.b x)) => some (some x)
      | some (.tup []) => some none
      | _ => none
    | none => none
  | none => none

def idle : Deed := { rd := [], wr := [], go := fun _ => some (True, undefA, []) }

def callDeed (X : Cx) (ρ : Env1) (nm : Nat) (o : Oper) : Option Deed :=
  match o.op with
  | .call c => match c.callee with
    | .value (.func f) => match evAll ρ c.args.toList with
      | some vs => X.tab f vs nm
      | none => none
    | _ => opDeed X.P ρ nm o
  | _ => opDeed X.P ρ nm o

/-- What operation i does in this frame. -/
def act1 (X : Cx) (ops : Array Oper) (i : Nat) (ρ : Env1) (gd : Nat → Option (Option Bool)) : Option Deed :=
  match ops[i]? with
  | none => none
  | some o => match o.guard with
    | none => callDeed X ρ (X.base + 16 * i) o
    | some (j, want) => match gd j, want with
      | some (some true), true => callDeed X ρ (X.base + 16 * i) o
      | some (some false), false => callDeed X ρ (X.base + 16 * i) o
      | some (some true), false => some idle
      | some (some false), true => some idle
      | some none, _ => some idle
      | none, _ => none

/-- What is said of a value, and the value so said. -/
def hint0 : AV → AV → Prop × AV
  | .sc (.b h), .sc (.b x) => (x = h, .sc (.b h))
  | .sc (.i _ h), .sc (.i k x) => (x = h, .sc (.i k h))
  | h, v => (v = h, h)

def hint1 (hints : List (Nat × AV)) (d : Option Nat) (v : AV) : Prop × AV :=
  match d with
  | none => (True, v)
  | some d => match look d hints with
    | none => (True, v)
    | some h => hint0 h v

def putD (n : Nat) (d : Option Nat) (v : AV) (fr : Fr) : Option Fr :=
  match d with
  | none => some fr
  | some d => bif Nat.blt d n then some (put1 d v fr) else none

abbrev St := Fr × Mem

def step1 (X : Cx) (ops : Array Oper) (i : Nat) (s : St) : Option (Prop × St) :=
  match ops[i]?, act1 X ops i (ev X.G s.1) (seen1 ops s.1) with
  | some o, some A => match A.run s.2 with
    | some (C, v, M') => let h := hint1 X.hints o.dst v; (match putD X.n o.dst h.2 s.1 with
      | some fr' => some (C ∧ h.1, fr', M')
      | none => none)
    | none => none
  | _, _ => none

/-- Operations in this order. -/
def runL (X : Cx) (ops : Array Oper) : List Nat → St → Option (Prop × St)
  | [], s => some (True, s)
  | i :: l, s => match step1 X ops i s with
    | none => none
    | some (C, s1) => match runL X ops l s1 with
      | none => none
      | some (C', s2) => some (C ∧ C', s2)

section
variable {E : Env} {X : Cx} {ops : Array Oper} {σ : Sig}

theorem putD_R {a : Act} {fr fr' : Fr} {d : Option Nat} {v : AV} {V : Value} (hf : FrR E σ fr a) (hn : a.tmps.size = X.n) (hv : AVR E σ v V) (h : putD X.n d v fr = some fr') :
    FrR E σ fr' (a.put d V) ∧ (a.put d V).tmps.size = X.n := by
  cases d with
  | none =>
    simp only [putD, Option.some.injEq] at h
    subst h
    exact ⟨hf, hn⟩
  | some d =>
    simp only [putD] at h
    cases hb : Nat.blt d X.n
    · simp [hb] at h
    · simp only [hb, cond_true, Option.some.injEq] at h
      subst h
      have hlt : d < X.n := by
        have := Nat.le_of_ble_eq_true (show Nat.ble (d + 1) X.n = true from hb)
        omega
      refine ⟨⟨fun t u ht => ?_, hf.defers⟩, by simp [Act.put, hn]⟩
      rw [look_put1] at ht
      simp only [Act.put]
      by_cases e : t = d
      · subst e
        rw [if_pos rfl] at ht
        injection ht with ht
        subst ht
        exact ⟨V, by rw [Array.getElem?_setIfInBounds_self]; simp; omega, hv⟩
      · rw [if_neg e] at ht
        obtain ⟨U, h1, h2⟩ := hf.val t u ht
        exact ⟨U, by rw [Array.getElem?_setIfInBounds_ne (Ne.symm e)]; exact h1, h2⟩

theorem hint0_R {h v : AV} {V : Value} (hv : AVR E σ v V) (hC : (hint0 h v).1) : AVR E σ (hint0 h v).2 V := by
  unfold hint0 at hC ⊢
  split at hC
  · simp only at hC
    subst hC
    exact hv
  · simp only at hC
    subst hC
    exact hv
  · simp only at hC
    rw [← hC]
    exact hv

theorem hint1_R {d : Option Nat} {v : AV} {V : Value} {hints : List (Nat × AV)} (hv : AVR E σ v V) (hC : (hint1 hints d v).1) : AVR E σ (hint1 hints d v).2 V := by
  cases d with
  | none => exact hv
  | some d =>
    simp only [hint1] at hC ⊢
    cases hl : look d hints with
    | none => exact hv
    | some h =>
      simp only [hl] at hC
      exact hint0_R hv hC

theorem seen1_R {fr : Fr} {a : Act} {j : Nat} {x : Option Bool} (hf : FrR E σ fr a) (h : seen1 ops fr j = some x) : yielded ops a.tmps j = x := by
  unfold seen1 at h
  split at h
  · rename_i o ho
    split at h
    · rename_i d hd
      split at h
      · rename_i y hy
        simp only [Option.some.injEq] at h
        subst h
        obtain ⟨V, h1, h2⟩ := hf.val d _ hy
        simp only [AVR, ScR] at h2
        subst h2
        simp [yielded, ho, hd, h1]
      · rename_i hy
        simp only [Option.some.injEq] at h
        subst h
        obtain ⟨V, h1, arr, h2, _⟩ := hf.val d _ hy
        subst h2
        simp [yielded, ho, hd, h1]
      · cases h
    · cases h
  · cases h

theorem run_enters {P : Program} {f : FuncId} {args : Array Value} {w : World} (h : entersB P f = true) : (callFunc f args).run P w = .ok (.enter f args) w := by
  unfold entersB at h
  split at h
  · rename_i fn hfn
    simp only [Bool.and_eq_true, bne_iff_ne, ne_eq] at h
    obtain ⟨h1, h2⟩ := h
    unfold callFunc
    simp only [Sem.run_bind, run_program, Result.andThen_ok, hfn]
    have h3 : (fn.name == "runtime.NumGoroutine") = false := by simpa using h1
    have h4 : fn.body.isNone = false := by
      cases hb : fn.body
      · simp [hb] at h2
      · rfl
    simp [h3, h4]
  · cases h

theorem entersB_func {f : FuncId} {args : Array Value} : Deferred.ofValue (.func (.func f) #[] #[]) args = pure { target := .fn (.func f) #[], args := args } := by
  simp [Deferred.ofValue]

/-- One operation, carried out. -/
theorem callDeed_wp {fr : Fr} {M M' : Mem} {a : Act} {w : World} {nm : Nat} {o : Oper} {A : Deed} {C : Prop} {v : AV} {K : Act → World → Prop} {Q : Exit → Act → World → Prop} (hP : E.P = X.P) (hG : GlobsOk E X.G) (hT : TabOk X.P X.G X.tab)
    (hf : FrR E σ fr a) (hM : MemR E σ M w) (hn : ∀ m, nm ≤ m → m < nm + 16 → σ m = .unset) (hA : callDeed X (ev X.G fr) nm o = some A) (hr : A.run M = some (C, v, M')) (hC : C)
    (hK : ∀ V E' σ' w', Grow E E' → Ext σ σ' → (∀ m, ¬ (nm ≤ m ∧ m < nm + 16) → σ' m = σ m) → AVR E' σ' v V → MemR E' σ' M' w' → K (a.put o.dst V) w') : o.wp X.P a w K Q := by
  have plain : opDeed X.P (ev X.G fr) nm o = some A → o.wp X.P a w K Q := by
    intro h
    rw [← hP] at h ⊢
    obtain ⟨V, w', σ', h1, h2, h3, h4, h5⟩ := fits_op hG hf hM hn h C v M' hr hC
    unfold Oper.wp
    rcases h1 with h1 | ⟨h1, rfl⟩
    · rw [h1]; exact hK V E σ' w' (.refl E) h2 h3 h4 h5
    · rw [h1]; exact hK undef E σ' w' (.refl E) h2 h3 h4 h5
  unfold callDeed at hA
  split at hA
  · rename_i c hop
    split at hA
    · rename_i f hcal
      split at hA
      · rename_i vs hvs
        obtain ⟨spec, hS, hsp⟩ := hT f vs nm A hA
        have hargs : All2 (AVR E σ) vs (c.args.map a.eval).toList := by
          have := evAll_R hG hf hvs
          simpa using this
        have hc := hS E σ M w vs (c.args.map a.eval) nm A C v M' hP hG hM hargs hn hsp hr hC
        have hdo : (execOp a.eval o).run X.P w = (callFunc f (c.args.map a.eval)).run X.P w := by
          unfold execOp
          rw [hop]
          simp only [resolve, hcal]
          have he : a.eval (.func f) = .func (.func f) #[] #[] := rfl
          rw [he, entersB_func]
          simp only [pure_bind, invoke, Array.append_empty]
        unfold Oper.wp
        rw [hdo]
        rcases hc with ⟨h0, hc⟩ | ⟨V, w', h0, E', σ', h1, h2, h3, h4, h5⟩
        · rw [run_enters h0, Oper.upon_enter]
          refine hc.mono fun e w' ⟨V, he, E', σ', h1, h2, h3, h4, h5⟩ => ?_
          subst he
          exact hK V E' σ' w' h1 h2 h3 h4 h5
        · rw [h0, Oper.upon_value]
          exact hK V E' σ' w' h1 h2 h3 h4 h5
      · cases hA
    · exact plain hA
  · exact plain hA

/-- One step. -/
theorem step1_wp {s s' : St} {i : Nat} {a : Act} {w : World} {C : Prop} {K : Act → World → Prop} {Q : Exit → Act → World → Prop} (hP : E.P = X.P) (hG : GlobsOk E X.G) (hT : TabOk X.P X.G X.tab)
    (hs : StR E X.n σ s.1 s.2 a w) (hn : ∀ m, X.base + 16 * i ≤ m → m < X.base + 16 * i + 16 → σ m = .unset) (h : step1 X ops i s = some (C, s')) (hC : C)
    (hK : ∀ E' σ' a' w', Grow E E' → Ext σ σ' → (∀ m, ¬ (X.base + 16 * i ≤ m ∧ m < X.base + 16 * i + 16) → σ' m = σ m) → StR E' X.n σ' s'.1 s'.2 a' w' → K a' w') : wpOp X.P ops Q i K a w := by
  unfold step1 at h
  split at h
  · rename_i o A ho hA
    split at h
    · rename_i C1 v M' hrun
      simp only at h
      split at h
      · rename_i fr' hput
        simp only [Option.some.injEq, Prod.mk.injEq] at h
        obtain ⟨rfl, rfl⟩ := h
        obtain ⟨hC1, hC2⟩ := hC
        have fin : ∀ V E' σ' w', Grow E E' → Ext σ σ' → (∀ m, ¬ (X.base + 16 * i ≤ m ∧ m < X.base + 16 * i + 16) → σ' m = σ m) → AVR E' σ' v V → MemR E' σ' M' w' → K (a.put o.dst V) w' := by
          intro V E' σ' w' hg hx ho' hv hM'
          obtain ⟨p1, p2⟩ := putD_R ((hs.toFrR.ext hx).grow hg) hs.tmps (hint1_R hv hC2) hput
          exact hK E' σ' _ w' hg hx ho' { toFrR := p1, toMemR := hM', tmps := p2 }
        have run : callDeed X (ev X.G s.1) (X.base + 16 * i) o = some A → Region.wanted o (yielded ops a.tmps) = true → wpOp X.P ops Q i K a w := by
          intro h1 h2
          unfold wpOp
          simp only [ho, h2, if_true]
          exact .inl (callDeed_wp hP hG hT hs.toFrR hs.toMemR hn h1 hrun hC1 fin)
        have skip : some idle = some A → Region.wanted o (yielded ops a.tmps) = false → wpOp X.P ops Q i K a w := by
          intro h1 h2
          injection h1 with h1
          subst h1
          simp only [Deed.run, idle, lookAll, putAll, Option.some.injEq, Prod.mk.injEq] at hrun
          obtain ⟨rfl, rfl, rfl⟩ := hrun
          unfold wpOp
          simp only [ho, h2, Bool.false_eq_true, if_false]
          exact fin undef E σ w (.refl _) (.refl _) (fun _ _ => rfl) (undefA_R E σ) hs.toMemR
        unfold act1 at hA
        simp only [ho] at hA
        split at hA
        · rename_i hg
          exact run hA (by simp [Region.wanted, hg])
        · rename_i j want hg
          split at hA
          · rename_i hj; exact run hA (by simp [Region.wanted, hg, seen1_R hs.toFrR hj])
          · rename_i hj; exact run hA (by simp [Region.wanted, hg, seen1_R hs.toFrR hj])
          · rename_i hj; exact skip hA (by simp [Region.wanted, hg, seen1_R hs.toFrR hj])
          · rename_i hj; exact skip hA (by simp [Region.wanted, hg, seen1_R hs.toFrR hj])
          · rename_i hj; exact skip hA (by simp [Region.wanted, hg, seen1_R hs.toFrR hj])
          · cases hA
      · cases h
    · cases h
  · cases h

theorem GlobsOk.grow {E E' : Env} {G : Globs} (h : GlobsOk E G) (hg : Grow E E') : GlobsOk E' G := by
  intro g k xs hG
  obtain ⟨h1, h2⟩ := h g k xs hG
  exact ⟨hg.old g h1, fun j hj => by rw [hg.cell (by rw [addA_block]; exact h1)]; exact h2 j hj⟩

/-- The order of the text. -/
theorem runL_wp {X : Cx} {ops : Array Oper} (hT : TabOk X.P X.G X.tab) {Q : Exit → Act → World → Prop} : ∀ (l : List Nat) (E : Env) (σ : Sig) (s s' : St) (a : Act) (w : World) (C : Prop), E.P = X.P → GlobsOk E X.G → l.Nodup → StR E X.n σ s.1 s.2 a w →
    (∀ i ∈ l, ∀ m, X.base + 16 * i ≤ m → m < X.base + 16 * i + 16 → σ m = .unset) → runL X ops l s = some (C, s') → C →
    (∀ E' σ' a' w', Grow E E' → Ext σ σ' → (∀ m, (∀ i ∈ l, ¬ (X.base + 16 * i ≤ m ∧ m < X.base + 16 * i + 16)) → σ' m = σ m) → StR E' X.n σ' s'.1 s'.2 a' w' → Q .normal a' w') → wpOps X.P ops Q l a w
  | [], E, σ, s, s', a, w, C, _, _, _, hs, _, h, _, hQ => by
    simp only [runL, Option.some.injEq, Prod.mk.injEq] at h
    obtain ⟨_, rfl⟩ := h
    exact hQ E σ a w (.refl _) (.refl _) (fun _ _ => rfl) hs
  | i :: l, E, σ, s, s', a, w, C, hP, hG, hnd, hs, hn, h, hC, hQ => by
    simp only [runL] at h
    split at h
    · cases h
    · rename_i C1 s1 h1
      split at h
      · cases h
      · rename_i C2 s2 h2
        simp only [Option.some.injEq, Prod.mk.injEq] at h
        obtain ⟨rfl, rfl⟩ := h
        rw [wpOps_cons]
        have hnd' := List.nodup_cons.1 hnd
        refine step1_wp hP hG hT hs (hn i (by simp)) h1 hC.1 fun E' σ' a' w' hg hx ho hs' => ?_
        refine runL_wp hT l E' σ' s1 s2 a' w' C2 (hg.P.trans hP) (hG.grow hg) hnd'.2 hs' ?_ h2 hC.2 fun E'' σ'' a'' w'' hg' hx' ho' hs'' => ?_
        · intro j hj m hm1 hm2
          rw [ho m ?_]
          · exact hn j (List.mem_cons_of_mem _ hj) m hm1 hm2
          · intro hc
            have : i = j := by omega
            exact hnd'.1 (this ▸ hj)
        · refine hQ E'' σ'' a'' w'' (hg.trans hg') (hx.trans hx') (fun m hm => ?_) hs''
          rw [ho' m fun j hj => hm j (List.mem_cons_of_mem _ hj), ho m (hm i (by simp))]

end
end Go.Vm
