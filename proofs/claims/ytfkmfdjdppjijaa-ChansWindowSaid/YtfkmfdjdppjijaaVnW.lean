/- Package-level variables that read as known integers. -/
import Derived.Test.YtfkmfdjdppjijaaVnV
import Derived.LaidMore
set_option linter.unusedVariables false
set_option linter.unusedSimpArgs false
namespace Go.Vm
open Go

section
variable {H : Type} {enc : TypeId × Value → H} {P : Program} {w : World} {base : Nat} {spare : Nat → Bool} {held : Bool}

theorem trod_known {t e : TypeId} {k : IntKind} {n fuel : Nat} {cs : List Value} {zs : List Int} {p : List MemPlace} (ht : P.underlying t = some (.array n e)) (he : P.underlying e = some (.int k)) (hc : P.cellsOf e = 1) (hn : P.cellsOf t = n)
    (h : DataW.trod enc P w base spare held fuel t cs = some ((.agg (zs.map fun z => .lit (.int k z)) : DataW H), p)) : cs = intVals k zs := by
  obtain ⟨xs, m, _, hx, hl, hxl, hp⟩ := DataW.trod_array ht h
  have h1 : zs.map (fun z => (.lit (.int k z) : DataW H)) = xs.map (·.1) := by
    have := congrArg Prod.fst hx
    simpa using this
  have hz : zs.length = n := by
    have := congrArg List.length h1
    simp at this
    omega
  apply List.ext_getElem?
  intro i
  by_cases hi : i < n
  · have h2 := hp i hi
    rw [List.getElem?_eq_getElem (by omega), hc, Nat.mul_one] at h2
    obtain ⟨z, hz1, hz2, _⟩ := DataW.trod_int he h2
    have h3 := congrArg (fun l : List (DataW H) => l[i]?) h1
    simp only [List.getElem?_map] at h3
    rw [List.getElem?_eq_getElem (by omega), List.getElem?_eq_getElem (by omega)] at h3
    simp only [Option.map_some, Option.some.injEq] at h3
    rw [hz2] at h3
    simp only [DataW.lit.injEq, Lit.int.injEq, true_and] at h3
    have h4 := congrArg (fun l : List Value => l[0]?) hz1
    simp only [List.getElem?_take, List.getElem?_drop] at h4
    have h5 : cs[i]? = some (.int k z) := by simpa using h4
    rw [h5, intVals, List.getElem?_map, List.getElem?_eq_getElem (by omega), ← h3]
    rfl
  · rw [List.getElem?_eq_none (by omega), List.getElem?_eq_none (by rw [intVals, List.length_map]; omega)]
end

/-- One of the variables, and what it reads as. -/
structure LaidI (P : Program) where
  name : String
  g : Nat
  t : TypeId
  e : TypeId
  k : IntKind
  zs : List Int

def LaidI.ok {P : Program} (x : LaidI P) : Prop := P.globalNamed x.name = some x.g ∧ (P.globals[x.g]?).map (·.type) = some x.t ∧ P.underlying x.t = some (.array x.zs.length x.e) ∧ P.underlying x.e = some (.int x.k) ∧ P.cellsOf x.e = 1 ∧ P.cellsOf x.t = x.zs.length

def LaidI.datum {P : Program} (x : LaidI P) : DataW Unit := .agg (x.zs.map fun z => .lit (.int x.k z))

theorem laid_cells {P : Program} {W : World} : ∀ {l : List (LaidI P)} {ps : List MemPlace}, (∀ x ∈ l, x.ok) → DataW.LaidVars P W (l.map fun x => (x.name, x.datum)) ps →
    ∀ x ∈ l, ∀ j, j < x.zs.length → W.cell? ⟨x.g, j, none⟩ = some (.int x.k (x.zs.getD j 0))
  | [], _, _, _, x, hx => by cases hx
  | y :: l, ps, hok, h, x, hx => by
    obtain ⟨g, t, cs, fuel, p, q, hg, ht, hv, hd, hr, _⟩ := h
    rcases List.mem_cons.1 hx with rfl | hx
    · intro j hj
      obtain ⟨o1, o2, o3, o4, o5, o6⟩ := hok x (by simp)
      obtain rfl := Option.some.inj (o1.symm.trans hg)
      obtain rfl := Option.some.inj (o2.symm.trans ht)
      have hc := trod_known o3 o4 o5 o6 hd
      have h1 := World.var?_cell hg hv j
      have h2 : cs[j]? = some (.int x.k (x.zs.getD j 0)) := by
        rw [← Array.getElem?_toList, hc, intVals, List.getElem?_map, List.getElem?_eq_getElem hj, List.getD_eq_getElem?_getD, List.getElem?_eq_getElem hj]
        rfl
      rw [h2] at h1
      simpa using h1
    · exact laid_cells (fun z hz => hok z (by simp [hz])) hr x hx

/-- The machine's view of them. -/
def globsOf {P : Program} : List (LaidI P) → Globs
  | [], _ => none
  | x :: l, g => bif Nat.beq g x.g then some (x.k, x.zs) else globsOf l g

theorem globs_ok {P : Program} {W : World} {l0 : List (LaidI P)} (h : ∀ x ∈ l0, ∀ j, j < x.zs.length → W.cell? ⟨x.g, j, none⟩ = some (.int x.k (x.zs.getD j 0))) (hne : ∀ x ∈ l0, 0 < x.zs.length) : GlobsOk (E0 P W) (globsOf l0) := by
  intro g k xs hg
  have key : ∀ l : List (LaidI P), (∀ x ∈ l, x ∈ l0) → globsOf l g = some (k, xs) → ∃ x ∈ l0, x.g = g ∧ x.k = k ∧ x.zs = xs := by
    intro l
    induction l with
    | nil => intro _ h; cases h
    | cons y l ih =>
      intro hl h
      unfold globsOf at h
      cases hb : Nat.beq g y.g
      · rw [hb] at h
        exact ih (fun x hx => hl x (by simp [hx])) h
      · rw [hb] at h
        simp only [cond_true, Option.some.injEq, Prod.mk.injEq] at h
        exact ⟨y, hl y (by simp), (Nat.eq_of_beq_eq_true hb).symm, h.1, h.2⟩
  obtain ⟨x, hx, rfl, rfl, rfl⟩ := key l0 (fun _ h => h) hg
  refine ⟨?_, fun j hj => ?_⟩
  · have := cell_lt (h x hx 0 (hne x hx))
    exact this
  · have := h x hx j hj
    show W.cell? ((⟨x.g, 0, none⟩ : Addr).add j) = _
    rw [← this]
    simp only [Addr.add]
    split
    · rename_i h0; simp [h0]
    · simp

/-- The row's hole, where variables are known. -/
theorem calls_trueG {P : Program} {G : Globs} {f : FuncId} {z : Sig1} (h : Known P G f z) (hf : entersB P f = true) (w : World) (hG : GlobsOk (E0 P w) G) (args : List AV) (Vs : Array Value) (C : Prop) (b : Bool) (ha : All2 (AVR (E0 P w) fun _ => .unset) args Vs.toList)
    (hm : z.m = 0) (hs : z.spec args [] = some (C, ⟨.sc (.b b), []⟩)) (hC : C) (hb : b = true) : Calls P f Vs w fun e w' => e = .returned (.bool true) ∧ Go.RowKit.Below w.heap.size w w' := by
  have hM : MemR (E0 P w) (fun _ => .unset) [] w :=
    { blk := fun b k hb => by cases hb
      inj := fun b c x y L L' hb => by cases hb
      old := fun _ _ => rfl
      size := Nat.le_refl _
      olds := fun _ h => h
      os := rfl
      tape := rfl
      output := rfl }
  rcases h.pure (E0 P w) w args [] Vs C _ rfl hG hm.symm (fun _ _ => rfl) hM ha hs hC with ⟨_, h1⟩ | ⟨V, w', h1, _⟩
  · refine h1.mono fun e w' ⟨V, he, E', σ', hg, _, h2, h3⟩ => ?_
    have h4 : V = .bool b := h2
    subst h4 hb
    exact ⟨he, h3.os.trans hg.os, h3.tape.trans hg.tape, h3.output.trans hg.output, Nat.le_trans hg.size h3.size, fun k hk => (h3.old k (hg.fz k hk)).trans (hg.w0 k hk)⟩
  · rw [run_enters hf] at h1
    cases h1
end Go.Vm
