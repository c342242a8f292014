/- The words of a small machine that runs straight pieces of the program on known values: its values, its memory, and what they say of the model's. -/
import Derived.Orders
import Derived.Below
import Derived.KernelRfl
import Derived.Laws.Sem
set_option linter.unusedVariables false
set_option linter.unusedSimpArgs false
namespace Go.Vm
open Go

/-- Where a block of the small machine lies: the model's block, where its known part begins there, and how many cells the model's block has. -/
structure Loc where
  g : Nat
  β : Nat
  sz : Nat

inductive Pl where
  | unset
  | nil
  | at (L : Loc)

abbrev Sig := Nat → Pl

/-- One cell's value. p: a place of a block; sl: a slice of a block's cells (cap none: to the end of the block, whatever it be); ro, ros, rob: a slice of what is only read, wherever it lies; rp: the place of one of those; raw: itself. -/
inductive Sc where
  | b (x : Bool)
  | i (k : IntKind) (n : Int)
  | s (x : ByteArray)
  | p (b o : Nat)
  | nilp
  | sl (b off len es : Nat) (cap : Option Nat)
  | nils
  | ro (k : IntKind) (xs : List Int)
  | ros (xs : List ByteArray)
  | rob (xs : List (List Int))
  | rp (k : IntKind) (xs : List Int) (j : Nat)
  | rps (x : ByteArray)
  | rpb (xs : List Int)
  | raw (v : Value)

/-- A value without its type: a cell; cells; integers of one kind. -/
inductive A1 where
  | sc (s : Sc)
  | agg (l : List Sc)
  | ints (k : IntKind) (n : Nat) (xs : List Int)

inductive AV where
  | sc (s : Sc)
  | agg (l : List Sc)
  | ints (k : IntKind) (n : Nat) (xs : List Int)
  | tup (l : List A1)

/-- Blocks whose cells are all of one sort: rows of bytes that are only read; strings; lists of strings that are only read. -/
inductive VK where
  | row
  | str
  | tab
@[reducible] def VK.T : VK → Type
  | .row => List Int
  | .str => ByteArray
  | .tab => List ByteArray
def VK.sc : (v : VK) → v.T → Sc
  | .row, x => .ro .u8 x
  | .str, x => .s x
  | .tab, x => .ros x
def VK.z : (v : VK) → v.T
  | .row => []
  | .str => ⟨#[]⟩
  | .tab => []
def VK.un : (v : VK) → Sc → Option v.T
  | .row, .ro .u8 x => some x
  | .row, .nils => some []
  | .str, .s x => some x
  | .tab, .ros x => some x
  | .tab, .nils => some []
  | _, _ => none
def VK.unL (v : VK) : List Sc → Option (List v.T)
  | [] => some []
  | s :: r => match v.un s, v.unL r with
    | some x, some xs => some (x :: xs)
    | _, _ => none

inductive Blk where
  | ints (k : IntKind) (n : Nat) (xs : List Int)
  | cells (l : List Sc)
  | vec (v : VK) (xs : List v.T)

def A1.up : A1 → AV
  | .sc s => .sc s
  | .agg l => .agg l
  | .ints k n xs => .ints k n xs

def Blk.len : Blk → Nat
  | .ints _ n _ => n
  | .cells l => l.length
  | .vec _ xs => xs.length

def Blk.get? (blk : Blk) (j : Nat) : Option Sc :=
  match blk with
  | .ints k _ xs => (xs[j]?).map (.i k ·)
  | .cells l => l[j]?
  | .vec v xs => (xs[j]?).map v.sc

abbrev Fr := List (Nat × AV)
abbrev Mem := List (Nat × Blk)

def look {α : Type} (n : Nat) : List (Nat × α) → Option α
  | [] => none
  | (m, v) :: r => bif Nat.beq m n then some v else look n r

def drop1 {α : Type} (n : Nat) : List (Nat × α) → List (Nat × α)
  | [] => []
  | (m, v) :: r => bif Nat.beq m n then drop1 n r else (m, v) :: drop1 n r

def put1 {α : Type} (n : Nat) (v : α) (l : List (Nat × α)) : List (Nat × α) := (n, v) :: drop1 n l

/-- What stays known. -/
def keep1 {α : Type} (ks : List Nat) : List (Nat × α) → List (Nat × α)
  | [] => []
  | (m, v) :: r => bif ks.any (Nat.beq m) then (m, v) :: keep1 ks r else keep1 ks r

theorem beqT (k : Nat) : Nat.beq k k = true := Nat.beq_refl k
theorem beqF {k m : Nat} (h : k ≠ m) : Nat.beq k m = false := by
  cases hb : Nat.beq k m
  · rfl
  · exact absurd (Nat.eq_of_beq_eq_true hb) h

theorem look_drop1 {α : Type} (n m : Nat) (l : List (Nat × α)) : look m (drop1 n l) = if m = n then none else look m l := by
  induction l with
  | nil => simp [look, drop1]
  | cons x r ih =>
    obtain ⟨k, v⟩ := x
    by_cases h : k = n
    · subst h
      simp only [drop1, look, beqT, cond_true, ih]
      by_cases h2 : m = k
      · subst h2; simp
      · simp [beqF (Ne.symm h2), h2]
    · simp only [drop1, look, beqF h, cond_false, ih]
      by_cases h2 : k = m
      · subst h2
        simp [h]
      · simp [beqF h2]

theorem look_put1 {α : Type} (n m : Nat) (v : α) (l : List (Nat × α)) : look m (put1 n v l) = if m = n then some v else look m l := by
  unfold put1
  simp only [look, look_drop1]
  by_cases h : m = n
  · subst h; simp
  · simp [beqF (Ne.symm h), h]

theorem look_keep1 {α : Type} (ks : List Nat) (m : Nat) (l : List (Nat × α)) : look m (keep1 ks l) = if ks.any (Nat.beq m) then look m l else none := by
  induction l with
  | nil => simp [keep1, look]
  | cons x r ih =>
    obtain ⟨k, u⟩ := x
    simp only [keep1]
    cases hk : ks.any (Nat.beq k)
    · simp only [cond_false, ih, look]
      by_cases h2 : k = m
      · subst h2; simp [hk]
      · simp [beqF h2]
    · simp only [cond_true, look, ih]
      by_cases h2 : k = m
      · subst h2; simp [hk]
      · simp [beqF h2]

theorem look_of_keep1 {α : Type} {ks : List Nat} {m : Nat} {l : List (Nat × α)} {v : α} (h : look m (keep1 ks l) = some v) : look m l = some v := by
  rw [look_keep1] at h
  split at h
  · exact h
  · cases h

/-! ### What a value says of the model's -/
/-- The activation: the program, the world that is looked back at, the model's blocks that read-only values may lie in, and those that stay as they were; where the blocks lay that were handed in. -/
structure Env where
  P : Program
  w0 : World
  old : Nat → Prop
  fz : Nat → Prop
  sub : ∀ g, old g → fz g
  kp : Sig

def All2 {α β : Type} (R : α → β → Prop) : List α → List β → Prop
  | [], [] => True
  | a :: as, b :: bs => R a b ∧ All2 R as bs
  | _, _ => False

/-- From 'ad' on the old memory reads so. -/
def Env.Reads (E : Env) (ad : Addr) (k : IntKind) (xs : List Int) : Prop :=
  E.old ad.block ∧ ∀ j, j < xs.length → E.w0.cell? (ad.add j) = some (.int k (xs.getD j 0))

def RoR (E : Env) (k : IntKind) (xs : List Int) (V : Value) : Prop :=
  ∃ A c, V = .slice A xs.length c ∧ xs.length ≤ c ∧ (0 < xs.length → ∃ ad, A = some ad ∧ E.Reads ad k xs)

def ScR (E : Env) (σ : Sig) : Sc → Value → Prop
  | .b x, V => V = .bool x
  | .i k n, V => V = .int k n
  | .s x, V => V = .string x
  | .p b o, V => ∃ L, σ b = .at L ∧ V = .pointer (some ⟨L.g, L.β + o, none⟩)
  | .nilp, V => V = .pointer none
  | .sl b off len es cap, V =>
    (len = 0 ∧ (cap = none ∨ cap = some 0) ∧ ∃ A, V = .slice A 0 0) ∨
    (∃ L c, σ b = .at L ∧ V = .slice (some ⟨L.g, L.β + off, none⟩) len c ∧ len ≤ c ∧ L.β + off + c * es ≤ L.sz ∧
      (match cap with | some n => c = n | none => L.β + off + c * es = L.sz))
  | .nils, V => V = .slice none 0 0
  | .ro k xs, V => RoR E k xs V
  | .ros xs, V => ∃ A c, V = .slice A xs.length c ∧ xs.length ≤ c ∧
      (0 < xs.length → ∃ ad, A = some ad ∧ E.old ad.block ∧ ∀ j, j < xs.length → E.w0.cell? (ad.add j) = some (.string (xs.getD j ⟨#[]⟩)))
  | .rob xs, V => ∃ A c, V = .slice A xs.length c ∧ xs.length ≤ c ∧
      (0 < xs.length → ∃ ad, A = some ad ∧ E.old ad.block ∧ ∀ j, j < xs.length → ∃ v, E.w0.cell? (ad.add j) = some v ∧ RoR E .u8 (xs.getD j []) v)
  | .rp k xs j, V => ∃ ad, V = .pointer (some (ad.add j)) ∧ E.Reads ad k xs
  | .rps x, V => ∃ ad, V = .pointer (some ad) ∧ E.old ad.block ∧ E.w0.cell? ad = some (.string x)
  | .rpb xs, V => ∃ ad v, V = .pointer (some ad) ∧ E.old ad.block ∧ E.w0.cell? ad = some v ∧ RoR E .u8 xs v
  | .raw v, V => V = v ∧ v.oneCell' = true

def intVals (k : IntKind) (xs : List Int) : List Value := xs.map (.int k ·)

def A1R (E : Env) (σ : Sig) : A1 → Value → Prop
  | .sc s, V => ScR E σ s V
  | .agg l, V => ∃ arr, V = .agg arr ∧ All2 (ScR E σ) l arr.toList
  | .ints k n xs, V => xs.length = n ∧ V = .agg (intVals k xs).toArray

def AVR (E : Env) (σ : Sig) : AV → Value → Prop
  | .sc s, V => ScR E σ s V
  | .agg l, V => ∃ arr, V = .agg arr ∧ All2 (ScR E σ) l arr.toList
  | .ints k n xs, V => xs.length = n ∧ V = .agg (intVals k xs).toArray
  | .tup l, V => ∃ arr, V = .tuple arr ∧ All2 (A1R E σ) l arr.toList

def undefA : AV := .tup []
theorem undefA_R (E : Env) (σ : Sig) : AVR E σ undefA undef := ⟨#[], rfl, trivial⟩

/-- A block of the small machine in the model's memory. -/
def Blk.good : Blk → Prop
  | .ints _ n xs => xs.length = n
  | .cells _ => True
  | .vec _ _ => True

/-- None of the cells is frozen. -/
def Unfz (lo hi n : Nat) : Prop := (∀ j, j < n → ¬ (lo ≤ j ∧ j < hi)) ∧ lo ≤ hi

def BlkR (E : Env) (σ : Sig) (w : World) (blk : Blk) : Pl → Prop
  | .unset => False
  | .nil => blk.len = 0 ∧ blk.good
  | .at L => blk.good ∧ ∃ arr elem lo hi, w.heap[L.g]? = some (.cells arr elem (lo, hi)) ∧ arr.size = L.sz ∧ L.β + blk.len ≤ L.sz ∧ ¬ E.fz L.g ∧
      Unfz lo hi L.sz ∧ ∀ j s, blk.get? j = some s → ∃ v, arr[L.β + j]? = some v ∧ ScR E σ s v

structure MemR (E : Env) (σ : Sig) (M : Mem) (w : World) : Prop where
  blk : ∀ b k, look b M = some k → BlkR E σ w k (σ b)
  inj : ∀ b c x y L L', look b M = some x → look c M = some y → σ b = .at L → σ c = .at L' → L.g = L'.g → b = c
  old : ∀ g, E.fz g → w.heap[g]? = E.w0.heap[g]?
  size : E.w0.heap.size ≤ w.heap.size
  olds : ∀ g, E.fz g → g < E.w0.heap.size
  os : w.os = E.w0.os
  tape : w.tape = E.w0.tape
  output : w.output = E.w0.output

structure FrR (E : Env) (σ : Sig) (fr : Fr) (a : Act) : Prop where
  val : ∀ t v, look t fr = some v → ∃ V, a.tmps[t]? = some V ∧ AVR E σ v V
  defers : a.defers = []

structure StR (E : Env) (n : Nat) (σ : Sig) (fr : Fr) (M : Mem) (a : Act) (w : World) : Prop extends FrR E σ fr a, MemR E σ M w where
  tmps : a.tmps.size = n

/-- To say less. -/
theorem StR.less {E : Env} {n : Nat} {σ : Sig} {fr fr' : Fr} {M M' : Mem} {a : Act} {w : World} (h : StR E n σ fr M a w)
    (hf : ∀ t v, look t fr' = some v → look t fr = some v) (hM : ∀ b k, look b M' = some k → look b M = some k) : StR E n σ fr' M' a w :=
  { val := fun t v ht => h.val t v (hf t v ht)
    defers := h.defers
    tmps := h.tmps
    blk := fun b k hb => h.blk b k (hM b k hb)
    inj := fun b c x y L L' hb hc => h.inj b c x y L L' (hM b x hb) (hM c y hc)
    old := h.old
    size := h.size
    olds := h.olds
    os := h.os
    tape := h.tape
    output := h.output }

/-- What is known stays known while more names are given. -/
def Ext (σ σ' : Sig) : Prop := ∀ m, σ m ≠ .unset → σ' m = σ m

theorem Ext.refl (σ : Sig) : Ext σ σ := fun _ _ => rfl
theorem Ext.trans {σ σ' σ'' : Sig} (h : Ext σ σ') (h' : Ext σ' σ'') : Ext σ σ'' := fun m hm => by
  have h1 := h m hm
  rw [← h1]
  exact h' m (by rw [h1]; exact hm)

theorem ScR.ext {E : Env} {σ σ' : Sig} (hx : Ext σ σ') : ∀ {s : Sc} {V : Value}, ScR E σ s V → ScR E σ' s V
  | .b _, _, h | .i _ _, _, h | .s _, _, h | .nilp, _, h | .nils, _, h | .ro _ _, _, h | .ros _, _, h | .rob _, _, h | .rp _ _ _, _, h | .rps _, _, h | .rpb _, _, h | .raw _, _, h => h
  | .p b o, _, ⟨L, h, e⟩ => ⟨L, by rw [hx b (by rw [h]; simp)]; exact h, e⟩
  | .sl b off len es cap, _, h => by
    rcases h with h | ⟨L, c, h, r⟩
    · exact .inl h
    · exact .inr ⟨L, c, by rw [hx b (by rw [h]; simp)]; exact h, r⟩

theorem All2.mono {α β : Type} {R R' : α → β → Prop} (h : ∀ a b, R a b → R' a b) : ∀ {l : List α} {m : List β}, All2 R l m → All2 R' l m
  | [], [], _ => trivial
  | _ :: _, _ :: _, ⟨h1, h2⟩ => ⟨h _ _ h1, All2.mono h h2⟩

theorem All2.length {α β : Type} {R : α → β → Prop} : ∀ {l : List α} {m : List β}, All2 R l m → l.length = m.length
  | [], [], _ => rfl
  | _ :: _, _ :: _, ⟨_, h2⟩ => by simp [All2.length h2]

theorem All2.get {α β : Type} {R : α → β → Prop} : ∀ {l : List α} {m : List β}, All2 R l m → ∀ (j : Nat) (a : α), l[j]? = some a → ∃ b, m[j]? = some b ∧ R a b
  | [], [], _, j, a, h => by simp at h
  | _ :: _, _ :: _, ⟨h1, _⟩, 0, a, h => by simp at h; subst h; exact ⟨_, rfl, h1⟩
  | _ :: _, _ :: _, ⟨_, h2⟩, j + 1, a, h => by simpa using All2.get h2 j a (by simpa using h)

theorem All2.of_get {α β : Type} {R : α → β → Prop} : ∀ {l : List α} {m : List β}, l.length = m.length → (∀ (j : Nat) (a : α) (b : β), l[j]? = some a → m[j]? = some b → R a b) → All2 R l m
  | [], [], _, _ => trivial
  | [], _ :: _, h, _ => by simp at h
  | _ :: _, [], h, _ => by simp at h
  | a :: l, b :: m, h, hg => ⟨hg 0 a b rfl rfl, All2.of_get (by simpa using h) fun j x y hx hy => hg (j + 1) x y (by simpa using hx) (by simpa using hy)⟩

theorem A1R.ext {E : Env} {σ σ' : Sig} (hx : Ext σ σ') : ∀ {v : A1} {V : Value}, A1R E σ v V → A1R E σ' v V
  | .sc _, _, h => ScR.ext hx h
  | .agg _, _, ⟨arr, e, h⟩ => ⟨arr, e, h.mono fun _ _ => ScR.ext hx⟩
  | .ints _ _ _, _, h => h

theorem AVR.ext {E : Env} {σ σ' : Sig} (hx : Ext σ σ') : ∀ {v : AV} {V : Value}, AVR E σ v V → AVR E σ' v V
  | .sc _, _, h => ScR.ext hx h
  | .agg _, _, ⟨arr, e, h⟩ => ⟨arr, e, h.mono fun _ _ => ScR.ext hx⟩
  | .ints _ _ _, _, h => h
  | .tup _, _, ⟨arr, e, h⟩ => ⟨arr, e, h.mono fun _ _ => A1R.ext hx⟩

theorem FrR.ext {E : Env} {σ σ' : Sig} (hx : Ext σ σ') {fr : Fr} {a : Act} (h : FrR E σ fr a) : FrR E σ' fr a :=
  ⟨fun t v ht => let ⟨V, h1, h2⟩ := h.val t v ht; ⟨V, h1, h2.ext hx⟩, h.defers⟩

/-! ### more is known to stay -/
structure Grow (E E' : Env) : Prop where
  P : E'.P = E.P
  old : ∀ g, E.old g → E'.old g
  fz : ∀ g, E.fz g → E'.fz g
  w0 : ∀ g, E.fz g → E'.w0.heap[g]? = E.w0.heap[g]?
  new : ∀ g, E'.old g → E.old g ∨ ¬ E.fz g
  size : E.w0.heap.size ≤ E'.w0.heap.size
  os : E'.w0.os = E.w0.os
  tape : E'.w0.tape = E.w0.tape
  output : E'.w0.output = E.w0.output

theorem Grow.refl (E : Env) : Grow E E := ⟨rfl, fun _ h => h, fun _ h => h, fun _ _ => rfl, fun _ h => .inl h, Nat.le_refl _, rfl, rfl, rfl⟩
theorem Grow.trans {E E' E'' : Env} (h : Grow E E') (h' : Grow E' E'') : Grow E E'' where
  P := h'.P.trans h.P
  old g hg := h'.old g (h.old g hg)
  fz g hg := h'.fz g (h.fz g hg)
  w0 g hg := (h'.w0 g (h.fz g hg)).trans (h.w0 g hg)
  new g hg := by
    rcases h'.new g hg with h1 | h1
    · exact h.new g h1
    · exact .inr fun h2 => h1 (h.fz g h2)
  size := Nat.le_trans h.size h'.size
  os := h'.os.trans h.os
  tape := h'.tape.trans h.tape
  output := h'.output.trans h.output

theorem Grow.cell {E E' : Env} (h : Grow E E') {a : Addr} (ha : E.old a.block) : E'.w0.cell? a = E.w0.cell? a := by
  simp only [World.cell?, h.w0 _ (E.sub _ ha)]
theorem addA_block (a : Addr) (n : Nat) : (a.add n).block = a.block := by
  unfold Addr.add
  split <;> rfl
theorem Grow.reads {E E' : Env} (h : Grow E E') {ad : Addr} {k : IntKind} {xs : List Int} (hr : E.Reads ad k xs) : E'.Reads ad k xs :=
  ⟨h.old _ hr.1, fun j hj => by rw [h.cell (by rw [addA_block]; exact hr.1)]; exact hr.2 j hj⟩
theorem Grow.ro {E E' : Env} (h : Grow E E') {k : IntKind} {xs : List Int} {V : Value} (hr : RoR E k xs V) : RoR E' k xs V := by
  obtain ⟨A, c, q1, q2, q3⟩ := hr
  refine ⟨A, c, q1, q2, fun hpos => ?_⟩
  obtain ⟨ad, r1, r2⟩ := q3 hpos
  exact ⟨ad, r1, h.reads r2⟩
theorem ScR.grow {E E' : Env} {σ : Sig} (h : Grow E E') : ∀ {s : Sc} {V : Value}, ScR E σ s V → ScR E' σ s V
  | .b _, _, q | .i _ _, _, q | .s _, _, q | .nilp, _, q | .nils, _, q | .raw _, _, q | .p _ _, _, q | .sl _ _ _ _ _, _, q => q
  | .ro _ _, _, q => h.ro q
  | .ros _, _, ⟨A, c, q1, q2, q3⟩ => ⟨A, c, q1, q2, fun hpos => by
    obtain ⟨ad, r1, r2, r3⟩ := q3 hpos
    exact ⟨ad, r1, h.old _ r2, fun j hj => by rw [h.cell (by rw [addA_block]; exact r2)]; exact r3 j hj⟩⟩
  | .rob _, _, ⟨A, c, q1, q2, q3⟩ => ⟨A, c, q1, q2, fun hpos => by
    obtain ⟨ad, r1, r2, r3⟩ := q3 hpos
    refine ⟨ad, r1, h.old _ r2, fun j hj => ?_⟩
    obtain ⟨v, e1, e2⟩ := r3 j hj
    exact ⟨v, by rw [h.cell (by rw [addA_block]; exact r2)]; exact e1, h.ro e2⟩⟩
  | .rp _ _ _, _, ⟨ad, q1, q2⟩ => ⟨ad, q1, h.reads q2⟩
  | .rps _, _, ⟨ad, q1, q2, q3⟩ => ⟨ad, q1, h.old _ q2, by rw [h.cell q2]; exact q3⟩
  | .rpb _, _, ⟨ad, v, q1, q2, q3, q4⟩ => ⟨ad, v, q1, h.old _ q2, by rw [h.cell q2]; exact q3, h.ro q4⟩
theorem A1R.grow {E E' : Env} {σ : Sig} (h : Grow E E') : ∀ {v : A1} {V : Value}, A1R E σ v V → A1R E' σ v V
  | .sc _, _, q => ScR.grow h q
  | .agg _, _, ⟨arr, e, q⟩ => ⟨arr, e, q.mono fun _ _ => ScR.grow h⟩
  | .ints _ _ _, _, q => q
theorem AVR.grow {E E' : Env} {σ : Sig} (h : Grow E E') : ∀ {v : AV} {V : Value}, AVR E σ v V → AVR E' σ v V
  | .sc _, _, q => ScR.grow h q
  | .agg _, _, ⟨arr, e, q⟩ => ⟨arr, e, q.mono fun _ _ => ScR.grow h⟩
  | .ints _ _ _, _, q => q
  | .tup _, _, ⟨arr, e, q⟩ => ⟨arr, e, q.mono fun _ _ => A1R.grow h⟩
theorem FrR.grow {E E' : Env} {σ : Sig} (h : Grow E E') {fr : Fr} {a : Act} (q : FrR E σ fr a) : FrR E' σ fr a :=
  ⟨fun t v ht => let ⟨V, h1, h2⟩ := q.val t v ht; ⟨V, h1, h2.grow h⟩, q.defers⟩

end Go.Vm
