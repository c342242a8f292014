/- What a deed of the small machine is worth, second part: values, integers, strings, comparisons. -/
import Derived.Test.YtfkmfdjdppjijaaVnC
import Derived.Laws.StructEq
import Derived.Laws.Small
import Derived.Laws.Pointers
set_option linter.unusedVariables false
set_option linter.unusedSimpArgs false
namespace Go.Vm
open Go

section
variable {E : Env} {σ : Sig} {nm : Nat} {M : Mem} {w : World} {A : Deed} {r : Result Next}

theorem scOf_R {V : Value} (h : V.oneCell' = true) : ScR E σ (scOf V) V := by
  unfold scOf
  split
  all_goals first
    | rfl
    | exact ⟨rfl, h⟩

theorem intsOf_eq {k : IntKind} : ∀ {l : List Value} {xs : List Int}, intsOf k l = some xs → l = xs.map (.int k ·)
  | [], xs, h => by simp [intsOf] at h; subst h; rfl
  | .int k' n :: r, xs, h => by
    simp only [intsOf] at h
    split at h
    · rename_i hk
      cases hr : intsOf k r with
      | none => simp [hr] at h
      | some ys =>
        simp only [hr, Option.some.injEq] at h
        subst h hk
        simp [intsOf_eq hr]
    · cases h
  | .bool _ :: _, _, h | .float _ _ :: _, _, h | .complex _ _ _ :: _, _, h | .string _ :: _, _, h | .pointer _ :: _, _, h | .slice _ _ _ :: _, _, h | .map _ :: _, _, h | .chan _ :: _, _, h
  | .func _ _ _ :: _, _, h | .nilFunc :: _, _, h | .iface _ _ :: _, _, h | .nilIface :: _, _, h | .agg _ :: _, _, h | .tuple _ :: _, _, h => by simp [intsOf] at h

theorem all2_map_scOf : ∀ l : List Value, (∀ v ∈ l, v.oneCell' = true) → All2 (ScR E σ) (l.map scOf) l
  | [], _ => trivial
  | _ :: l, h => ⟨scOf_R (h _ (by simp)), all2_map_scOf l fun v hv => h v (List.mem_cons_of_mem _ hv)⟩

/-- Cells and a block that says them. -/
def CellsR (E : Env) (σ : Sig) (k : Blk) (l : List Value) : Prop := k.good ∧ k.len = l.length ∧ ∀ j s, k.get? j = some s → ∃ v, l[j]? = some v ∧ ScR E σ s v

theorem cellsR_ints {k : IntKind} {n : Nat} {xs : List Int} (h : xs.length = n) : CellsR E σ (.ints k n xs) (intVals k xs) := by
  refine ⟨h, by simp [Blk.len, intVals, h], fun j s hs => ?_⟩
  simp only [Blk.get?, Option.map_eq_some_iff] at hs
  obtain ⟨x, hx, rfl⟩ := hs
  exact ⟨.int k x, by simp [intVals, hx], rfl⟩

theorem cellsR_cells {l : List Sc} {vs : List Value} (h : All2 (ScR E σ) l vs) : CellsR E σ (.cells l) vs :=
  ⟨trivial, h.length, fun j s hs => h.get j s hs⟩

theorem cellsR_vec {v : VK} {xs : List v.T} {f : v.T → Value} (h : ∀ x ∈ xs, ScR E σ (v.sc x) (f x)) : CellsR E σ (.vec v xs) (xs.map f) := by
  refine ⟨trivial, by simp [Blk.len], fun j s hs => ?_⟩
  simp only [Blk.get?, Option.map_eq_some_iff] at hs
  obtain ⟨x, hx, rfl⟩ := hs
  exact ⟨f x, by simp [hx], h x (List.mem_of_getElem? hx)⟩

theorem cellsOfV_R {l : List Value} {k : Blk} (h : cellsOfV l = some k) : CellsR E σ k l := by
  unfold cellsOfV at h
  split at h
  · cases h
  · rename_i hall
    have hone : ∀ v ∈ l, v.oneCell' = true := by simpa using hall
    split at h
    · split at h
      · rename_i xs hx
        have := intsOf_eq hx
        simp only [Option.some.injEq] at h
        subst h
        have h2 := cellsR_ints (E := E) (σ := σ) (k := ‹IntKind›) (xs := xs) rfl
        rw [intVals, ← this] at h2
        exact h2
      · simp only [Option.some.injEq] at h
        subst h
        exact cellsR_cells (all2_map_scOf _ hone)
    · simp only [Option.some.injEq] at h
      subst h
      exact cellsR_cells (all2_map_scOf _ hone)

theorem CellsR.av {k : Blk} {l : List Value} (h : CellsR E σ k l) : AVR E σ k.av (.agg l.toArray) := by
  cases k with
  | ints kd n xs =>
    obtain ⟨h1, h2, h3⟩ := h
    refine ⟨h1, ?_⟩
    simp only [Blk.good] at h1
    simp only [Blk.len] at h2
    congr 1
    congr 1
    apply List.ext_getElem (by simp [intVals]; omega)
    intro j h4 h5
    obtain ⟨v, hv, hr⟩ := h3 j (.i kd (xs[j]'(by simp [intVals] at h5; omega))) (by simp [Blk.get?, List.getElem?_eq_getElem (show j < xs.length by simp [intVals] at h5; omega)])
    simp only [ScR] at hr
    subst hr
    rw [List.getElem?_eq_getElem h4] at hv
    simp only [intVals, List.getElem_map]
    injection hv
  | cells ss =>
    obtain ⟨_, h2, h3⟩ := h
    refine ⟨_, rfl, ?_⟩
    refine All2.of_get (by simpa [Blk.len] using h2) fun j s v hs hv => ?_
    obtain ⟨v', hv', hr⟩ := h3 j s hs
    have hv2 : l[j]? = some v := by simpa using hv
    rw [hv2] at hv'
    injection hv' with hv'
    subst hv'
    exact hr
  | vec k xs =>
    obtain ⟨_, h2, h3⟩ := h
    refine ⟨_, rfl, ?_⟩
    refine All2.of_get (by simpa [Blk.len] using h2) fun j s v hs hv => ?_
    obtain ⟨v', hv', hr⟩ := h3 j s (by simpa [Blk.get?] using hs)
    have hv2 : l[j]? = some v := by simpa using hv
    rw [hv2] at hv'
    injection hv' with hv'
    subst hv'
    exact hr

theorem VK.un_R {v : VK} {s : Sc} {x : v.T} {V : Value} (h : v.un s = some x) (hs : ScR E σ s V) : ScR E σ (v.sc x) V := by
  have nil : ∀ {V : Value}, ScR E σ .nils V → RoR E .u8 [] V := fun h => ⟨none, 0, h, Nat.le_refl _, fun h => absurd h (Nat.lt_irrefl _)⟩
  cases v with
  | row =>
    cases s with
    | ro k xs =>
      cases k <;> simp only [VK.un, Option.some.injEq, reduceCtorEq] at h
      subst h
      exact hs
    | nils =>
      simp only [VK.un, Option.some.injEq] at h
      subst h
      exact nil hs
    | _ => simp [VK.un] at h
  | str =>
    cases s with
    | s y =>
      simp only [VK.un, Option.some.injEq] at h
      subst h
      exact hs
    | _ => simp [VK.un] at h
  | tab =>
    cases s with
    | ros y =>
      simp only [VK.un, Option.some.injEq] at h
      subst h
      exact hs
    | nils =>
      simp only [VK.un, Option.some.injEq] at h
      subst h
      exact ⟨none, 0, hs, Nat.le_refl _, fun h => absurd h (Nat.lt_irrefl _)⟩
    | _ => simp [VK.un] at h
theorem VK.unL_len {v : VK} : ∀ {l : List Sc} {xs : List v.T}, v.unL l = some xs → xs.length = l.length
  | [], xs, h => by simp only [VK.unL, Option.some.injEq] at h; subst h; rfl
  | s :: r, xs, h => by
    simp only [VK.unL] at h
    split at h
    · rename_i x ys h1 h2
      simp only [Option.some.injEq] at h
      subst h
      simp [VK.unL_len h2]
    · cases h
theorem VK.unL_get {v : VK} : ∀ {l : List Sc} {xs : List v.T} {j : Nat} {x : v.T}, v.unL l = some xs → xs[j]? = some x → ∃ s, l[j]? = some s ∧ v.un s = some x
  | [], xs, j, x, h, hx => by simp only [VK.unL, Option.some.injEq] at h; subst h; simp at hx
  | s :: r, xs, j, x, h, hx => by
    simp only [VK.unL] at h
    split at h
    · rename_i y ys h1 h2
      simp only [Option.some.injEq] at h
      subst h
      cases j with
      | zero => simp at hx; subst hx; exact ⟨s, rfl, h1⟩
      | succ j => simpa using VK.unL_get h2 (by simpa using hx)
    · cases h

theorem avOf_R {V : Value} {v : AV} (h : avOf V = some v) : AVR E σ v V := by
  unfold avOf at h
  split at h
  · rename_i cs
    simp only [Option.map_eq_some_iff] at h
    obtain ⟨k, hk, rfl⟩ := h
    have := (cellsOfV_R (E := E) (σ := σ) hk).av
    simpa using this
  · cases h
  · rename_i h1 h2
    simp only [Option.some.injEq] at h
    subst h
    refine scOf_R ?_
    cases V <;> first
      | rfl
      | exact absurd rfl (h1 _)
      | exact absurd rfl (h2 _)

theorem sc_one {s : Sc} {V : Value} (hs : ScR E σ s V) : V.cells.toList = [V] ∧ V.oneCell' = true := by
  cases s <;> simp only [ScR] at hs
  case raw v =>
    obtain ⟨rfl, h⟩ := hs
    refine ⟨?_, h⟩
    cases V <;> first
      | rfl
      | simp [Value.oneCell'] at h
  case sl b off len es cap => rcases hs with ⟨_, _, A, rfl⟩ | ⟨L, c, _, rfl, _⟩ <;> exact ⟨rfl, rfl⟩
  case p b o => obtain ⟨L, _, rfl⟩ := hs; exact ⟨rfl, rfl⟩
  case ro k xs => obtain ⟨A, c, rfl, _⟩ := hs; exact ⟨rfl, rfl⟩
  case ros xs => obtain ⟨A, c, rfl, _⟩ := hs; exact ⟨rfl, rfl⟩
  case rob xs => obtain ⟨A, c, rfl, _⟩ := hs; exact ⟨rfl, rfl⟩
  case rp k xs j => obtain ⟨ad, rfl, _⟩ := hs; exact ⟨rfl, rfl⟩
  case rps x => obtain ⟨ad, rfl, _⟩ := hs; exact ⟨rfl, rfl⟩
  case rpb xs => obtain ⟨ad, _, rfl, _⟩ := hs; exact ⟨rfl, rfl⟩
  all_goals (subst hs; exact ⟨rfl, rfl⟩)

theorem AV.blk_R {v : AV} {V : Value} {k : Blk} (h : AVR E σ v V) (hk : v.blk = some k) : CellsR E σ k V.cells.toList := by
  cases v with
  | sc s =>
    have hs : ScR E σ s V := h
    cases s with
    | i kd n =>
      simp only [AV.blk, Option.some.injEq] at hk
      subst hk
      simp only [ScR] at hs
      subst hs
      exact cellsR_ints rfl
    | _ =>
      simp only [AV.blk, Option.some.injEq] at hk
      subst hk
      rw [(sc_one hs).1]
      exact cellsR_cells ⟨hs, trivial⟩
  | agg l =>
    simp only [AV.blk, Option.some.injEq] at hk
    subst hk
    obtain ⟨arr, rfl, h2⟩ := h
    exact cellsR_cells h2
  | ints kd n xs =>
    simp only [AV.blk, Option.some.injEq] at hk
    subst hk
    obtain ⟨h1, rfl⟩ := h
    exact cellsR_ints h1
  | tup l => simp [AV.blk] at hk

def GlobsOk (E : Env) (G : Globs) : Prop := ∀ g k xs, G g = some (k, xs) → E.Reads ⟨g, 0, none⟩ k xs

theorem ev_R {G : Globs} {fr : Fr} {a : Act} {o : Operand} {v : AV} (hG : GlobsOk E G) (hf : FrR E σ fr a) (h : ev G fr o = some v) : AVR E σ v (a.eval o) := by
  cases o with
  | tmp t =>
    obtain ⟨V, h1, h2⟩ := hf.val t v h
    simp only [Act.eval, Array.getD_eq_getD_getElem?, h1, Option.getD_some]
    exact h2
  | const V => exact avOf_R h
  | global g =>
    simp only [ev] at h
    split at h
    · rename_i k xs hg
      simp only [Option.some.injEq] at h
      subst h
      exact ⟨⟨g, 0, none⟩, rfl, hG g k xs hg⟩
    · cases h
  | func f =>
    simp only [ev, Option.some.injEq] at h
    subst h
    exact ⟨rfl, rfl⟩

/-! ### operators -/
theorem run_v {s : Sem Value} {V : Value} {w' : World} {P : Program} (h : s.run P w = .ok V w') : (do pure (.value (← s)) : Sem Next).run P w = .ok (.value V) w' := by
  simp [h]

theorem run_binInt {P : Program} {op : BinOp} {k : IntKind} {x y : Int} {C : Prop} {s : Sc} {t : TypeId} (h : binInt op k x y = some (C, s)) (hC : C) :
    ∃ V, (binOp op t (.int k x) (.int k y)).run P w = .ok V w ∧ ScR E σ s V := by
  cases op <;> simp only [binInt, Option.some.injEq, Prod.mk.injEq, reduceCtorEq] at h
  all_goals (obtain ⟨rfl, rfl⟩ := h)
  all_goals first
    | exact ⟨_, by simp [binOp, Op.intArith]; rfl, rfl⟩
    | exact ⟨_, by simp [binOp, Op.intDiv, hC]; rfl, rfl⟩
    | exact ⟨_, by simp [binOp, Op.intBits]; rfl, rfl⟩
    | exact ⟨_, by simp [binOp, Op.intCmp]; rfl, rfl⟩

theorem eqGuard_sc {P : Program} {op : BinOp} {t : TypeId} {x y : Operand} {X Y : Value} (h1 : ∀ cs, X ≠ .agg cs) (h2 : X ≠ .nilIface) : (eqGuard op t x y X Y).run P w = .ok () w := by
  unfold eqGuard
  cases X <;> first
    | exact absurd rfl h2
    | exact absurd rfl (h1 _)
    | (cases op <;> simp)

theorem eqGuard_ints {P : Program} {op : BinOp} {t : TypeId} {x y : Operand} {X Y : Array Value} {n : Nat} {e : TypeId} {k : IntKind} (ht : P.underlying t = some (.array n e)) (he : P.underlying e = some (.int k)) :
    (eqGuard op t x y (.agg X) (.agg Y)).run P w = .ok () w := by
  have hd : ∃ d, P.depth = d + 2 := ⟨2 * (P.types.size + Made.depth), rfl⟩
  obtain ⟨d, hd⟩ := hd
  have : P.eqGuardType P.depth t = false := by
    rw [hd]
    simp only [Program.eqGuardType, ht, he]
  exact run_eqGuard_agg w op t x y X Y this

theorem run_equalIn_ints {P : Program} {t e : TypeId} {n d : Nat} {k k' : IntKind} {xs ys : List Int} (ht : P.underlying t = some (.array n e)) (he : P.underlying e = some (.int k')) (hs : (P.info? e).map (·.size) = some 1)
    (hx : xs.length = n) (hy : ys.length = n) : (Op.equalIn (d + 2) t (.agg (intVals k xs).toArray) (.agg (intVals k ys).toArray)).run P w = .ok (xs == ys) w := by
  obtain ⟨i, hi, hi1⟩ : ∃ i, P.info? e = some i ∧ i.size = 1 := by
    cases h : P.info? e with
    | none => simp [h] at hs
    | some i => exact ⟨i, rfl, by simpa [h] using hs⟩
  have hsz : (sizeOf e).run P w = .ok 1 w := by simp [sizeOf, typeInfo, hi, hi1]
  have hagg : (isAgg e).run P w = .ok false w := by simp [isAgg, underlying, he]
  have hpart : ∀ (zs : List Int) (j : Nat), j < zs.length → (part e (intVals k zs).toArray (j * 1)).run P w = .ok (.int k (zs.getD j 0)) w := by
    intro zs j hj
    unfold part
    simp [hagg, intVals, List.getElem?_eq_getElem hj]
  have heq : ∀ a b : Int, (Op.equalIn (d + 1) e (.int k a) (.int k b)).run P w = .ok (a == b) w := fun a b => run_equalIn_int w d e k k' a b he
  unfold Op.equalIn
  simp only [underlying, Sem.run_bind, run_program, Result.andThen_ok, ht, Sem.run_pure, hsz]
  have key : ∀ m s, s + m = n → (forIn (List.range' s m) ((none, ()) : Option Bool × Unit) fun i (_ : Option Bool × Unit) => do
            let a ← part e (intVals k xs).toArray (i * 1)
            let b ← part e (intVals k ys).toArray (i * 1)
            let c ← Op.equalIn (d + 1) e a b
            if (!c) = true then pure (ForInStep.done (some false, ())) else pure (ForInStep.yield ((none, ()) : Option Bool × Unit)) : Sem (Option Bool × Unit)).run P w =
      .ok (if xs.drop s == ys.drop s then (none, ()) else (some false, ())) w := by
    intro m
    induction m with
    | zero =>
      intro s hs'
      have h1 : xs.drop s = [] := List.drop_eq_nil_of_le (by omega)
      have h2 : ys.drop s = [] := List.drop_eq_nil_of_le (by omega)
      simp [h1, h2]
    | succ m ih =>
      intro s hs'
      have hsx : s < xs.length := by omega
      have hsy : s < ys.length := by omega
      have gx : xs.getD s 0 = xs[s] := by simp [List.getElem?_eq_getElem hsx]
      have gy : ys.getD s 0 = ys[s] := by simp [List.getElem?_eq_getElem hsy]
      rw [List.range'_succ, List.forIn_cons]
      simp only [Sem.run_bind, hpart xs s hsx, hpart ys s hsy, Result.andThen_ok, heq, Sem.run_ite, gx, gy]
      rw [List.drop_eq_getElem_cons hsx, List.drop_eq_getElem_cons hsy, List.cons_beq_cons]
      by_cases e1 : xs[s] = ys[s]
      · simp only [e1, beq_self_eq_true, Bool.not_true, Bool.false_eq_true, if_false, Sem.run_pure, Result.andThen_ok]
        rw [ih (s + 1) (by omega), Bool.true_and]
      · have : (xs[s] == ys[s]) = false := by simpa using e1
        simp only [this, Bool.not_false, if_true, Sem.run_pure, Result.andThen_ok, Bool.false_and, Bool.false_eq_true, if_false]
  have hr : (forIn (m := Sem) [:n] ((none, ()) : Option Bool × Unit) fun i (_ : Option Bool × Unit) => do
            let a ← part e (intVals k xs).toArray (i * 1)
            let b ← part e (intVals k ys).toArray (i * 1)
            let c ← Op.equalIn (d + 1) e a b
            if (!c) = true then pure (ForInStep.done (some false, ())) else pure (ForInStep.yield ((none, ()) : Option Bool × Unit))).run P w = .ok (if xs == ys then (none, ()) else (some false, ())) w := by
    have := key n 0 (by omega)
    simp only [List.drop_zero] at this
    rw [Std.Legacy.Range.forIn_eq_forIn_range']
    simpa [Std.Legacy.Range.size] using this
  rw [hr]
  by_cases e1 : (xs == ys) = true <;> simp [e1]
end
end Go.Vm
