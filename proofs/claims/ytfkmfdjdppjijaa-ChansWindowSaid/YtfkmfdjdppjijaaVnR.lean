/- A call whose function looks at its arguments, and at the blocks that it is handed, alone: as a deed of the caller's. -/
import Derived.Test.YtfkmfdjdppjijaaVnQ
set_option linter.unusedVariables false
set_option linter.unusedSimpArgs false
namespace Go.Vm
open Go

/-- Values without read-only parts. -/
def Sc.plain : Sc → Bool
  | .p _ _ | .sl _ _ _ _ _ | .b _ | .i _ _ | .s _ | .nilp | .nils => true
  | _ => false
def A1.plain : A1 → Bool
  | .sc s => s.plain
  | .agg l => l.all Sc.plain
  | .ints _ _ _ => true
def AV.plain : AV → Bool
  | .sc s => s.plain
  | .agg l => l.all Sc.plain
  | .ints _ _ _ => true
  | .tup l => l.all A1.plain
def Blk.plain : Blk → Bool
  | .ints _ _ _ => true
  | .cells l => l.all Sc.plain
  | .vec .str _ => true
  | .vec _ _ => false
def OBlk.plain : Option Blk → Bool
  | none => true
  | some k => k.plain
def Ret.plain (r : Ret) : Bool := r.v.plain && r.bs.all OBlk.plain

/-- Values that name no block. -/
def Sc.own0 : Sc → Bool
  | .b _ | .i _ _ | .s _ | .nilp | .nils => true
  | _ => false

/-- How a parameter is handed over: as it is; as integers that are only read; as rows of bytes that are only read; with the blocks that it names. -/
inductive Pass where
  | val
  | ro (k : IntKind)
  | rob
  | ros
  | io

/-- Some of a list; all of it, where that is plain. -/
def part1 (xs : List Int) (n off len : Nat) : List Int := bif Nat.beq len n && Nat.beq off 0 then xs else (xs.drop off).take len

theorem part1_eq {xs : List Int} {n off len : Nat} (h : xs.length = n) : part1 xs n off len = (xs.drop off).take len := by
  unfold part1
  cases hb : (Nat.beq len n && Nat.beq off 0)
  · rfl
  · rw [Bool.and_eq_true] at hb
    have h1 := Nat.eq_of_beq_eq_true hb.1
    have h2 := Nat.eq_of_beq_eq_true hb.2
    subst h1 h2
    simp only [cond_true, List.drop_zero]
    rw [List.take_of_length_le (by omega)]

theorem part1_all {xs : List Int} {n : Nat} (h : xs.length = n) : part1 xs n 0 n = xs := by
  rw [part1_eq h, List.drop_zero, List.take_of_length_le (by omega)]

/-- Some of a list; from its head, where that is plain. -/
def partV {α : Type} (xs : List α) (off len : Nat) : List α := bif Nat.beq off 0 then xs.take len else (xs.drop off).take len
theorem partV_eq {α : Type} (xs : List α) (off len : Nat) : partV xs off len = (xs.drop off).take len := by
  unfold partV
  cases hb : Nat.beq off 0
  · rfl
  · have h := Nat.eq_of_beq_eq_true hb
    subst h
    rfl
theorem partV_all {α : Type} (xs : List α) : partV xs 0 xs.length = xs := by rw [partV_eq, List.drop_zero, List.take_length]

def lookZ (b : Nat) : List Nat → List Blk → Option Blk
  | m :: ms, k :: ks => bif Nat.beq m b then some k else lookZ b ms ks
  | _, _ => none

/-- A slice, as integers that are only read; ms: the blocks that are lent. -/
def roOf (k : IntKind) (ms : List Nat) (ks : List Blk) : Sc → Option (Prop × List Int)
  | .ro k' xs => if k' = k then some (True, xs) else none
  | .nils => some (True, [])
  | .sl b off len 1 _ => match lookZ b ms ks with
    | some (.ints k' n xs) => if k' = k then some (off + len ≤ n, part1 xs n off len) else none
    | some (.cells []) => some (len = 0, [])
    | _ => none
  | _ => none
def rowsOf (ms : List Nat) (ks : List Blk) : List Sc → Option (Prop × List (List Int))
  | [] => some (True, [])
  | s :: r => match roOf .u8 ms ks s, rowsOf ms ks r with
    | some (C, xs), some (C', xss) => some (C ∧ C', xs :: xss)
    | _, _ => none

/-- The arguments as the function sees them. -/
def lendAll (ns : Ren) (ms : List Nat) (ks : List Blk) : List Pass → List AV → Option (Prop × List AV)
  | [], [] => some (True, [])
  | .ro k :: ps, .sc s :: r => match roOf k ms ks s, lendAll ns ms ks ps r with
    | some (C, xs), some (C', vs) => some (C ∧ C', .sc (.ro k xs) :: vs)
    | _, _ => none
  | .rob :: ps, .sc (.rob xs) :: r => (match lendAll ns ms ks ps r with
    | some (C, vs) => some (C, .sc (.rob xs) :: vs)
    | none => none)
  | .rob :: ps, .sc (.sl b off len es _) :: r => match lookZ b ms ks with
    | some (.cells l) => (match rowsOf ms ks ((l.drop off).take len), lendAll ns ms ks ps r with
      | some (C0, xss), some (C, vs) => bif Nat.beq es 1 then some ((off + len ≤ l.length ∧ C0) ∧ C, .sc (.rob xss) :: vs) else none
      | _, _ => none)
    | some (.vec .row xs) => (match lendAll ns ms ks ps r with
      | some (C, vs) => bif Nat.beq es 1 then some ((off + len ≤ xs.length) ∧ C, .sc (.rob (partV xs off len)) :: vs) else none
      | _ => none)
    | _ => none
  | .rob :: ps, .sc .nils :: r => (match lendAll ns ms ks ps r with
    | some (C, vs) => some (C, .sc (.rob []) :: vs)
    | none => none)
  | .ros :: ps, .sc (.ros xs) :: r => (match lendAll ns ms ks ps r with
    | some (C, vs) => some (C, .sc (.ros xs) :: vs)
    | none => none)
  | .ros :: ps, .sc .nils :: r => (match lendAll ns ms ks ps r with
    | some (C, vs) => some (C, .sc (.ros []) :: vs)
    | none => none)
  | .ros :: ps, .sc (.sl b off len es _) :: r => match lookZ b ms ks with
    | some (.vec .str xs) => (match lendAll ns ms ks ps r with
      | some (C, vs) => bif Nat.beq es 1 then some ((off + len ≤ xs.length) ∧ C, .sc (.ros (partV xs off len)) :: vs) else none
      | _ => none)
    | some (.cells l) => (match VK.unL .str ((l.drop off).take len), lendAll ns ms ks ps r with
      | some xs, some (C, vs) => bif Nat.beq es 1 then some ((off + len ≤ l.length) ∧ C, .sc (.ros xs) :: vs) else none
      | _, _ => none)
    | _ => none
  | .val :: ps, .sc s :: r => (match s.own0, lendAll ns ms ks ps r with
    | true, some (C, vs) => some (C, .sc s :: vs)
    | _, _ => none)
  | .val :: ps, .ints k n xs :: r => (match lendAll ns ms ks ps r with
    | some (C, vs) => some (C, .ints k n xs :: vs)
    | none => none)
  | .io :: ps, v :: r => (match v.ren ns, lendAll ns ms ks ps r with
    | some v', some (C, vs) => some (C, v' :: vs)
    | _, _ => none)
  | _, _ => none

def downB (ns : Ren) : List Blk → Option (List Blk)
  | [] => some []
  | k :: r => match k.ren ns, downB ns r with
    | some k', some r' => some (k' :: r')
    | _, _ => none
def upB (up : Ren) : List (Option Blk) → Option (List (Option Blk))
  | [] => some []
  | none :: r => (match upB up r with
    | some r' => some (none :: r')
    | none => none)
  | some k :: r => match k.ren up, upB up r with
    | some k', some r' => some (some k' :: r')
    | _, _ => none

/-- The names that the function has for the blocks fs. -/
def downN (fs : List Nat) : Ren := fs.zip (List.range fs.length)
/-- The caller's names for the function's. -/
def upN (fs : List Nat) (nm nb : Nat) : Ren := (List.range (fs.length + nb)).zip (fs ++ (List.range nb).map (nm + ·))

def big : Nat := 1000000000000

/-- The deed of such a call: ms are lent, fs are handed in, nb are new. -/
def callD (ps : List Pass) (ms fs : List Nat) (nb : Nat) (spec : List AV → List Blk → Option (Prop × Ret)) (args : List AV) (nm : Nat) : Option Deed :=
  bif renOk (downN fs) big && renOk (upN fs nm nb) big && ms.all (fun b => !fs.any (Nat.beq b)) then
    some { rd := ms ++ fs, wr := fs ++ (List.range nb).map (nm + ·), go := fun ks =>
      match lendAll (downN fs) ms (ks.take ms.length) ps args, downB (downN fs) (ks.drop ms.length) with
      | some (C, vs), some ks' => (match spec vs ks' with
        | some (C', r) => (match r.v.ren (upN fs nm nb), upB (upN fs nm nb) r.bs with
          | some v, some bs => bif Nat.beq r.bs.length (fs.length + nb) && (ms.isEmpty || r.plain) then some (C ∧ C', v, bs) else none
          | _, _ => none)
        | none => none)
      | _, _ => none }
  else none

section
variable {E E0 E' : Env} {σ σ' : Sig} {nm nb : Nat}

/-! ### another look back -/
theorem ro_env (ho : ∀ g, E0.old g → E'.old g) (hw : E'.w0 = E0.w0) {k : IntKind} {xs : List Int} {V : Value} (h : RoR E0 k xs V) : RoR E' k xs V := by
  obtain ⟨A, c, q1, q2, q3⟩ := h
  refine ⟨A, c, q1, q2, fun hpos => ?_⟩
  obtain ⟨ad, r1, r2, r3⟩ := q3 hpos
  exact ⟨ad, r1, ho _ r2, fun j hj => by rw [hw]; exact r3 j hj⟩
theorem Sc.env {pl : Bool} (ho : pl = false → ∀ g, E0.old g → E'.old g) (hw : E'.w0 = E0.w0) : ∀ {s : Sc} {V : Value}, (pl = true → s.plain = true) → ScR E0 σ s V → ScR E' σ s V := by
  intro s V hp h
  cases pl with
  | true =>
    have := hp rfl
    cases s <;> first | exact h | exact Bool.noConfusion (show false = true from this)
  | false =>
    have ho := ho rfl
    cases s with
    | b _ | i _ _ | s _ | nilp | nils | raw _ | p _ _ | sl _ _ _ _ _ => exact h
    | ro k xs => exact ro_env ho hw h
    | ros xs =>
      obtain ⟨A, c, q1, q2, q3⟩ := h
      refine ⟨A, c, q1, q2, fun hpos => ?_⟩
      obtain ⟨ad, r1, r2, r3⟩ := q3 hpos
      exact ⟨ad, r1, ho _ r2, fun j hj => by rw [hw]; exact r3 j hj⟩
    | rob xs =>
      obtain ⟨A, c, q1, q2, q3⟩ := h
      refine ⟨A, c, q1, q2, fun hpos => ?_⟩
      obtain ⟨ad, r1, r2, r3⟩ := q3 hpos
      refine ⟨ad, r1, ho _ r2, fun j hj => ?_⟩
      obtain ⟨v, e1, e2⟩ := r3 j hj
      exact ⟨v, by rw [hw]; exact e1, ro_env ho hw e2⟩
    | rp k xs j =>
      obtain ⟨ad, q1, q2, q3⟩ := h
      exact ⟨ad, q1, ho _ q2, fun j hj => by rw [hw]; exact q3 j hj⟩
    | rps x =>
      obtain ⟨ad, q1, q2, q3⟩ := h
      exact ⟨ad, q1, ho _ q2, by rw [hw]; exact q3⟩
    | rpb xs =>
      obtain ⟨ad, v, q1, q2, q3, q4⟩ := h
      exact ⟨ad, v, q1, ho _ q2, by rw [hw]; exact q3, ro_env ho hw q4⟩
theorem scL_env {pl : Bool} (ho : pl = false → ∀ g, E0.old g → E'.old g) (hw : E'.w0 = E0.w0) : ∀ {l : List Sc} {m : List Value}, (pl = true → l.all Sc.plain = true) → All2 (ScR E0 σ) l m → All2 (ScR E' σ) l m
  | [], [], _, _ => trivial
  | x :: r, V :: m, hp, h => ⟨Sc.env ho hw (fun q => by have := hp q; simp only [List.all_cons, Bool.and_eq_true] at this; exact this.1) h.1,
      scL_env ho hw (fun q => by have := hp q; simp only [List.all_cons, Bool.and_eq_true] at this; exact this.2) h.2⟩
theorem A1.env {pl : Bool} (ho : pl = false → ∀ g, E0.old g → E'.old g) (hw : E'.w0 = E0.w0) {v : A1} {V : Value} (hp : pl = true → v.plain = true) (h : A1R E0 σ v V) : A1R E' σ v V := by
  cases v with
  | sc s => exact Sc.env ho hw hp h
  | agg l => obtain ⟨arr, e, q⟩ := h; exact ⟨arr, e, scL_env ho hw hp q⟩
  | ints k n xs => exact h
theorem a1L_env {pl : Bool} (ho : pl = false → ∀ g, E0.old g → E'.old g) (hw : E'.w0 = E0.w0) : ∀ {l : List A1} {m : List Value}, (pl = true → l.all A1.plain = true) → All2 (A1R E0 σ) l m → All2 (A1R E' σ) l m
  | [], [], _, _ => trivial
  | x :: r, V :: m, hp, h => ⟨A1.env ho hw (fun q => by have := hp q; simp only [List.all_cons, Bool.and_eq_true] at this; exact this.1) h.1,
      a1L_env ho hw (fun q => by have := hp q; simp only [List.all_cons, Bool.and_eq_true] at this; exact this.2) h.2⟩
theorem AV.env {pl : Bool} (ho : pl = false → ∀ g, E0.old g → E'.old g) (hw : E'.w0 = E0.w0) {v : AV} {V : Value} (hp : pl = true → v.plain = true) (h : AVR E0 σ v V) : AVR E' σ v V := by
  cases v with
  | sc s => exact Sc.env ho hw hp h
  | agg l => obtain ⟨arr, e, q⟩ := h; exact ⟨arr, e, scL_env ho hw hp q⟩
  | ints k n xs => exact h
  | tup l => obtain ⟨arr, e, q⟩ := h; exact ⟨arr, e, a1L_env ho hw hp q⟩
theorem Blk.env {pl : Bool} (ho : pl = false → ∀ g, E0.old g → E'.old g) (hw : E'.w0 = E0.w0) (hz : ∀ g, ¬ E0.fz g → ¬ E'.fz g) {k : Blk} {L : Pl} {w : World} (hp : pl = true → k.plain = true) (h : BlkR E0 σ w k L) : BlkR E' σ w k L := by
  cases L with
  | unset => exact h
  | nil => exact h
  | «at» L =>
    obtain ⟨g1, arr, elem, lo, hi, q1, q2, q3, q4, q5, q6⟩ := h
    refine ⟨g1, arr, elem, lo, hi, q1, q2, q3, hz _ q4, q5, fun j s hs => ?_⟩
    obtain ⟨v, e1, e2⟩ := q6 j s hs
    refine ⟨v, e1, Sc.env ho hw (fun q => ?_) e2⟩
    have := hp q
    cases k with
    | ints kk n xs =>
      simp only [Blk.get?, Option.map_eq_some_iff] at hs
      obtain ⟨_, _, rfl⟩ := hs
      rfl
    | cells l =>
      simp only [Blk.plain, List.all_eq_true] at this
      exact this s (List.mem_of_getElem? hs)
    | vec v l =>
      simp only [Blk.get?, Option.map_eq_some_iff] at hs
      obtain ⟨x, _, rfl⟩ := hs
      cases v with
      | str => rfl
      | row => simp [Blk.plain] at this
      | tab => simp [Blk.plain] at this

theorem lookAll_append {M : Mem} : ∀ {l m : List Nat} {ks : List Blk}, lookAll M (l ++ m) = some ks → lookAll M l = some (ks.take l.length) ∧ lookAll M m = some (ks.drop l.length)
  | [], m, ks, h => ⟨by simp [lookAll], by simpa using h⟩
  | b :: l, m, ks, h => by
    simp only [List.cons_append, lookAll] at h ⊢
    cases hb : look b M with
    | none => simp [hb] at h
    | some k =>
      simp only [hb] at h ⊢
      cases hr : lookAll M (l ++ m) with
      | none => simp [hr] at h
      | some ks' =>
        simp only [hr, Option.some.injEq] at h
        subst h
        obtain ⟨h1, h2⟩ := lookAll_append hr
        exact ⟨by simp [h1], by simpa using h2⟩
theorem lookAll_at {M : Mem} : ∀ {l : List Nat} {ks : List Blk}, lookAll M l = some ks → l.length = ks.length ∧ ∀ (j b : Nat), l[j]? = some b → ∃ k, ks[j]? = some k ∧ look b M = some k
  | [], ks, h => by
    simp only [lookAll, Option.some.injEq] at h
    subst h
    exact ⟨rfl, fun j b hb => by simp at hb⟩
  | x :: l, ks, h => by
    simp only [lookAll] at h
    cases hb : look x M with
    | none => simp [hb] at h
    | some k =>
      simp only [hb] at h
      cases hr : lookAll M l with
      | none => simp [hr] at h
      | some ks' =>
        simp only [hr, Option.some.injEq] at h
        subst h
        obtain ⟨h1, h2⟩ := lookAll_at hr
        refine ⟨by simp [h1], fun j b hj => ?_⟩
        cases j with
        | zero =>
          simp only [List.getElem?_cons_zero, Option.some.injEq] at hj
          subst hj
          exact ⟨k, rfl, hb⟩
        | succ j =>
          simp only [List.getElem?_cons_succ] at hj ⊢
          exact h2 j b hj
theorem lookZ_mem {b : Nat} : ∀ {ms : List Nat} {ks : List Blk} {k : Blk}, lookZ b ms ks = some k → ∃ j : Nat, ms[j]? = some b ∧ ks[j]? = some k
  | [], ks, k, h => by cases ks <;> cases h
  | m :: ms, [], k, h => by cases h
  | m :: ms, x :: ks, k, h => by
    simp only [lookZ] at h
    by_cases e : m = b
    · subst e
      simp only [beqT, cond_true, Option.some.injEq] at h
      exact ⟨0, rfl, by rw [h]; rfl⟩
    · simp only [beqF e, cond_false] at h
      obtain ⟨j, h1, h2⟩ := lookZ_mem h
      exact ⟨j + 1, by simpa using h1, by simpa using h2⟩
theorem lookZ_look {M : Mem} {ms : List Nat} {ks : List Blk} (hl : lookAll M ms = some ks) {b : Nat} {k : Blk} (h : lookZ b ms ks = some k) : look b M = some k ∧ b ∈ ms := by
  obtain ⟨j, h1, h2⟩ := lookZ_mem h
  obtain ⟨k', h3, h4⟩ := (lookAll_at hl).2 j b h1
  rw [h2] at h3
  injection h3 with h3
  subst h3
  exact ⟨h4, List.mem_of_getElem? h1⟩
theorem heap_lt {w : World} {g : Nat} {o : Obj} (h : w.heap[g]? = some o) : g < w.heap.size := (Array.getElem?_eq_some_iff.1 h).1
theorem blk_good {M : Mem} {w : World} (hM : MemR E σ M w) {b : Nat} {k : Blk} (h : look b M = some k) : k.good := by
  have hB := hM.blk b _ h
  revert hB
  cases σ b with
  | unset => intro h; exact h.elim
  | nil => intro h; exact h.2
  | «at» L => intro h; exact h.1

/-! ### the function's look back -/
def inFeet (σ : Sig) (fs : List Nat) (g : Nat) : Prop := ∃ b ∈ fs, ∃ L, σ b = .at L ∧ L.g = g
def callE (E : Env) (σ : Sig) (w : World) (fs : List Nat) (lent : Bool) (κ : Sig) : Env :=
  { P := E.P, w0 := w, old := fun g => (E.old g ∨ (lent = true ∧ ¬ E.fz g)) ∧ (g < w.heap.size ∧ ¬ inFeet σ fs g), fz := fun g => g < w.heap.size ∧ ¬ inFeet σ fs g, sub := fun _ h => h.2, kp := κ }

section
variable {M : Mem} {w : World} {fs ms : List Nat} {kfs kms : List Blk} {lent : Bool} {κ : Sig}

theorem feet_at (hfs : lookAll M fs = some kfs) {b : Nat} (hb : b ∈ fs) : ∃ k, look b M = some k := by
  obtain ⟨j, hj⟩ := List.mem_iff_getElem?.1 hb
  obtain ⟨k, _, h⟩ := (lookAll_at hfs).2 j b hj
  exact ⟨k, h⟩
theorem fz_out (hM : MemR E σ M w) (hfs : lookAll M fs = some kfs) {g : Nat} (hg : E.fz g) : g < w.heap.size ∧ ¬ inFeet σ fs g := by
  refine ⟨Nat.lt_of_lt_of_le (hM.olds g hg) hM.size, ?_⟩
  rintro ⟨b, hb, L, hL, rfl⟩
  obtain ⟨k, hk⟩ := feet_at hfs hb
  have hB := hM.blk b k hk
  rw [hL] at hB
  obtain ⟨_, arr, elem, lo, hi, _, _, _, q4, _⟩ := hB
  exact q4 hg
theorem grow0 (hM : MemR E σ M w) (hfs : lookAll M fs = some kfs) : Grow E (callE E σ w fs lent κ) where
  P := rfl
  old g hg := ⟨.inl hg, fz_out hM hfs (E.sub g hg)⟩
  fz g hg := fz_out hM hfs hg
  w0 g hg := hM.old g hg
  new g hg := by
    rcases hg.1 with h | h
    · exact .inl h
    · exact .inr h.2
  size := hM.size
  os := hM.os
  tape := hM.tape
  output := hM.output
theorem sl_out (hM : MemR E σ M w) (hfs : lookAll M fs = some kfs) (hd : ∀ b ∈ ms, b ∉ fs) {b : Nat} {k : Blk} {L : Loc} (hb : look b M = some k) (hms : b ∈ ms) (hL : σ b = .at L) : L.g < w.heap.size ∧ ¬ inFeet σ fs L.g ∧ ¬ E.fz L.g := by
  have hB := hM.blk b k hb
  rw [hL] at hB
  have hB' := hB
  obtain ⟨_, arr, elem, lo, hi, q1, _, _, q4, _⟩ := hB
  refine ⟨heap_lt q1, ?_, q4⟩
  rintro ⟨c, hc, L', hL', he⟩
  obtain ⟨k', hk'⟩ := feet_at hfs hc
  have := hM.inj c b k' k L' L hk' hb hL' hL he
  subst this
  exact hd c hms hc

/-- A slice that is lent. -/
theorem roOf_R (hM : MemR E σ M w) (hfs : lookAll M fs = some kfs) (hl : lookAll M ms = some kms) (hd : ∀ b ∈ ms, b ∉ fs) (hlent : ms ≠ [] → lent = true) {k : IntKind} {s : Sc} {C : Prop} {xs : List Int} {V : Value}
    (h : roOf k ms kms s = some (C, xs)) (hC : C) (hV : ScR E σ s V) : RoR (callE E σ w fs lent κ) k xs V := by
  unfold roOf at h
  split at h
  · split at h
    · rename_i hk
      subst hk
      simp only [Option.some.injEq, Prod.mk.injEq] at h
      obtain ⟨_, rfl⟩ := h
      exact (grow0 hM hfs).ro hV
    · cases h
  · simp only [Option.some.injEq, Prod.mk.injEq] at h
    obtain ⟨_, rfl⟩ := h
    have h4 : V = .slice none 0 0 := hV
    exact ⟨none, 0, h4, by simp, by simp⟩
  · rename_i b off len cap
    split at h
    · rename_i k' n zs hz
      split at h
      · rename_i hk
        subst hk
        simp only [Option.some.injEq, Prod.mk.injEq] at h
        obtain ⟨rfl, rfl⟩ := h
        obtain ⟨hblk, hmem⟩ := lookZ_look hl hz
        have hg0 : zs.length = n := blk_good hM hblk
        rw [part1_eq hg0]
        have hC : off + len ≤ n := hC
        rcases hV with ⟨q1, _, A, rfl⟩ | ⟨L, c, hL, rfl, q1, q2, q3⟩
        · subst q1
          exact ⟨A, 0, by simp, by simp, by simp⟩
        · obtain ⟨o1, o2, o3⟩ := sl_out hM hfs hd hblk hmem hL
          have hB := hM.blk b _ hblk
          rw [hL] at hB
          obtain ⟨g1, arr, elem, lo, hi, p1, p2, p3, p4, p5, p6⟩ := hB
          simp only [Blk.good] at g1
          have hlen : ((zs.drop off).take len).length = len := by simp; omega
          refine ⟨some ⟨L.g, L.β + off, none⟩, c, by rw [hlen], by rw [hlen]; exact q1, fun _ => ⟨_, rfl, ⟨.inr ⟨hlent (List.ne_nil_of_mem hmem), o3⟩, o1, o2⟩, fun j hj => ?_⟩⟩
          rw [hlen] at hj
          have hget : zs[off + j]? = some (zs.getD (off + j) 0) := by
            rw [List.getD_eq_getElem?_getD, List.getElem?_eq_getElem (by omega)]; rfl
          obtain ⟨v, e3, e4⟩ := p6 (off + j) (.i k' (zs.getD (off + j) 0)) (by show (zs[off + j]?).map _ = _; rw [hget]; rfl)
          simp only [ScR] at e4
          subst e4
          have : ((zs.drop off).take len).getD j 0 = zs.getD (off + j) 0 := by
            simp [List.getD_eq_getElem?_getD, List.getElem?_take, List.getElem?_drop, hj]
          rw [this, addr_add]
          show w.cell? _ = _
          have hlt : L.β + off + j < L.sz := by have := p3; simp only [Blk.len] at this; omega
          have := p5.1 (L.β + off + j) hlt
          simp [World.cell?, p1, this]
          rw [Nat.add_assoc]
          exact e3
      · cases h
    · rename_i hz
      simp only [Option.some.injEq, Prod.mk.injEq] at h
      obtain ⟨rfl, rfl⟩ := h
      rcases hV with ⟨q1, _, A, rfl⟩ | ⟨L, c, hL, rfl, q1, q2, q3⟩
      · exact ⟨A, 0, by simp, by simp, by simp⟩
      · have hC : len = 0 := hC
        subst hC
        exact ⟨_, c, rfl, by simp, by simp⟩
    · cases h
  · cases h

theorem rowsOf_R (hM : MemR E σ M w) (hfs : lookAll M fs = some kfs) (hl : lookAll M ms = some kms) (hd : ∀ b ∈ ms, b ∉ fs) (hlent : ms ≠ [] → lent = true) : ∀ {l : List Sc} {C : Prop} {xss : List (List Int)},
    rowsOf ms kms l = some (C, xss) → C → xss.length = l.length ∧ ∀ j s, l[j]? = some s → ∀ V, ScR E σ s V → RoR (callE E σ w fs lent κ) .u8 (xss.getD j []) V
  | [], C, xss, h, hC => by
    simp only [rowsOf, Option.some.injEq, Prod.mk.injEq] at h
    obtain ⟨_, rfl⟩ := h
    exact ⟨rfl, fun j s hs => by simp at hs⟩
  | s :: r, C, xss, h, hC => by
    simp only [rowsOf] at h
    split at h
    · rename_i C1 xs C2 xss' h1 h2
      simp only [Option.some.injEq, Prod.mk.injEq] at h
      obtain ⟨rfl, rfl⟩ := h
      obtain ⟨i1, i2⟩ := rowsOf_R hM hfs hl hd hlent h2 hC.2
      refine ⟨by simp [i1], fun j s' hs V hV => ?_⟩
      cases j with
      | zero =>
        simp only [List.getElem?_cons_zero, Option.some.injEq] at hs
        subst hs
        simpa using roOf_R hM hfs hl hd hlent h1 hC.1 hV
      | succ j => simpa using i2 j s' (by simpa using hs) V hV
    · cases h

/-- A slice of any block that is lent. -/
theorem lent_R (hM : MemR E σ M w) (hfs : lookAll M fs = some kfs) (hl : lookAll M ms = some kms) (hd : ∀ b ∈ ms, b ∉ fs) (hlent : ms ≠ [] → lent = true) {b off len : Nat} {cap : Option Nat} {k : Blk} {V : Value}
    (hz : lookZ b ms kms = some k) (hC : off + len ≤ k.len) (hV : ScR E σ (.sl b off len 1 cap) V) :
    ∃ A c, V = .slice A len c ∧ len ≤ c ∧ (0 < len → ∃ ad, A = some ad ∧ (callE E σ w fs lent κ).old ad.block ∧ ∀ j, j < len → ∃ s v, k.get? (off + j) = some s ∧ w.cell? (ad.add j) = some v ∧ ScR E σ s v) := by
  obtain ⟨hblk, hmem⟩ := lookZ_look hl hz
  have hB := hM.blk b _ hblk
  rcases hV with ⟨q1, _, A, rfl⟩ | ⟨L, c, hL, rfl, q1, q2, q3⟩
  · subst q1
    exact ⟨A, 0, rfl, Nat.le_refl _, fun h => absurd h (Nat.lt_irrefl _)⟩
  · obtain ⟨o1, o2, o3⟩ := sl_out hM hfs hd hblk hmem hL
    rw [hL] at hB
    obtain ⟨g1, arr, elem, lo, hi, p1, p2, p3, p4, p5, p6⟩ := hB
    refine ⟨_, c, rfl, q1, fun _ => ⟨_, rfl, ⟨.inr ⟨hlent (List.ne_nil_of_mem hmem), o3⟩, o1, o2⟩, fun j hj => ?_⟩⟩
    obtain ⟨s, hs⟩ := Blk.get_some g1 (show off + j < k.len by omega)
    obtain ⟨v, e3, e4⟩ := p6 (off + j) _ hs
    refine ⟨s, v, hs, ?_, e4⟩
    rw [addr_add]
    have hlt : L.β + off + j < L.sz := by omega
    have := p5.1 (L.β + off + j) hlt
    simp [World.cell?, p1, this]
    rw [Nat.add_assoc]
    exact e3

theorem lend_R (hM : MemR E σ M w) (hfs : lookAll M fs = some kfs) (hl : lookAll M ms = some kms) (hd : ∀ b ∈ ms, b ∉ fs) (hlent : ms ≠ [] → lent = true) {ns : Ren} {U : Nat} (hns : renOk ns U = true) :
    ∀ {ps : List Pass} {args vs : List AV} {m : List Value} {C : Prop}, lendAll ns ms kms ps args = some (C, vs) → C → All2 (AVR E σ) args m → All2 (AVR (callE E σ w fs lent (sigOf σ ns)) (sigOf σ ns)) vs m := by
  intro ps
  induction ps with
  | nil =>
    intro args vs m C h2 hC h3
    cases args with
    | nil =>
      simp only [lendAll, Option.some.injEq, Prod.mk.injEq] at h2
      obtain ⟨_, rfl⟩ := h2
      cases m with
      | nil => trivial
      | cons _ _ => exact h3.elim
    | cons _ _ => simp [lendAll] at h2
  | cons p ps ih =>
    intro args vs m C h2 hC h3
    cases args with
    | nil => cases p <;> simp [lendAll] at h2
    | cons v r =>
      cases m with
      | nil => exact h3.elim
      | cons V m =>
        have hg := grow0 (lent := lent) (κ := sigOf σ ns) hM hfs
        cases p with
        | val =>
          cases v with
          | sc s =>
            simp only [lendAll] at h2
            split at h2
            · rename_i C' vs' e1 e2
              simp only [Option.some.injEq, Prod.mk.injEq] at h2
              obtain ⟨rfl, rfl⟩ := h2
              refine ⟨?_, ih e2 hC h3.2⟩
              have h4 := h3.1
              cases s <;> first | exact h4 | exact Bool.noConfusion (show false = true from e1)
            · cases h2
          | ints k n xs =>
            simp only [lendAll] at h2
            split at h2
            · rename_i C' vs' e2
              simp only [Option.some.injEq, Prod.mk.injEq] at h2
              obtain ⟨rfl, rfl⟩ := h2
              exact ⟨h3.1, ih e2 hC h3.2⟩
            · cases h2
          | agg l => simp [lendAll] at h2
          | tup l => simp [lendAll] at h2
        | ro k =>
          cases v with
          | ints _ _ _ => simp [lendAll] at h2
          | agg l => simp [lendAll] at h2
          | tup l => simp [lendAll] at h2
          | sc s =>
            simp only [lendAll] at h2
            split at h2
            · rename_i C1 xs C2 vs' e1 e2
              simp only [Option.some.injEq, Prod.mk.injEq] at h2
              obtain ⟨rfl, rfl⟩ := h2
              exact ⟨roOf_R hM hfs hl hd hlent e1 hC.1 h3.1, ih e2 hC.2 h3.2⟩
            · cases h2
        | io =>
          have h2' : (match v.ren ns, lendAll ns ms kms ps r with
            | some v', some (C, vs) => some (C, v' :: vs)
            | _, _ => none) = some (C, vs) := by
            cases v <;> simpa only [lendAll] using h2
          split at h2'
          · rename_i v' C' vs' e1 e2
            simp only [Option.some.injEq, Prod.mk.injEq] at h2'
            obtain ⟨rfl, rfl⟩ := h2'
            exact ⟨(AV.ren_R hns e1 h3.1).grow hg, ih e2 hC h3.2⟩
          · cases h2'
        | rob =>
          cases v with
          | ints _ _ _ => simp [lendAll] at h2
          | agg l => simp [lendAll] at h2
          | tup l => simp [lendAll] at h2
          | sc s =>
            cases s with
            | rob xs =>
              simp only [lendAll] at h2
              split at h2
              · rename_i C' vs' e2
                simp only [Option.some.injEq, Prod.mk.injEq] at h2
                obtain ⟨rfl, rfl⟩ := h2
                exact ⟨AVR.grow (v := .sc (.rob xs)) (σ := sigOf σ ns) hg h3.1, ih e2 hC h3.2⟩
              · cases h2
            | sl b off len es cap =>
              simp only [lendAll] at h2
              split at h2
              · rename_i l hz
                split at h2
                · rename_i C0 xss C' vs' e1 e2
                  cases hes : Nat.beq es 1
                  · simp [hes] at h2
                  · simp only [hes, cond_true, Option.some.injEq, Prod.mk.injEq] at h2
                    obtain ⟨rfl, rfl⟩ := h2
                    have hes1 := Nat.eq_of_beq_eq_true hes
                    subst hes1
                    refine ⟨?_, ih e2 hC.2 h3.2⟩
                    obtain ⟨hle, hC0⟩ := hC.1
                    obtain ⟨hblk, hmem⟩ := lookZ_look hl hz
                    obtain ⟨i1, i2⟩ := rowsOf_R (κ := sigOf σ ns) hM hfs hl hd hlent e1 hC0
                    have hll : ((l.drop off).take len).length = len := by simp; omega
                    rw [hll] at i1
                    have hB := hM.blk b _ hblk
                    rcases h3.1 with ⟨q1, _, A, rfl⟩ | ⟨L, c, hL, rfl, q1, q2, q3⟩
                    · exact ⟨A, 0, by simp [i1, q1], by simp [i1, q1], by simp [i1, q1]⟩
                    · obtain ⟨o1, o2, o3⟩ := sl_out hM hfs hd hblk hmem hL
                      rw [hL] at hB
                      obtain ⟨g1, arr, elem, lo, hi, p1, p2, p3, p4, p5, p6⟩ := hB
                      refine ⟨some ⟨L.g, L.β + off, none⟩, c, by rw [i1], by rw [i1]; exact q1, fun _ => ⟨_, rfl, ⟨.inr ⟨hlent (List.ne_nil_of_mem hmem), o3⟩, o1, o2⟩, fun j hj => ?_⟩⟩
                      rw [i1] at hj
                      have hget : l[off + j]? = some (l[off + j]'(by omega)) := List.getElem?_eq_getElem _
                      obtain ⟨v, e3, e4⟩ := p6 (off + j) _ hget
                      refine ⟨v, ?_, i2 j (l[off + j]'(by omega)) (by simp [List.getElem?_take, List.getElem?_drop, hj, hget]) v e4⟩
                      rw [addr_add]
                      show w.cell? _ = _
                      have hlt : L.β + off + j < L.sz := by have := p3; simp only [Blk.len] at this; omega
                      have := p5.1 (L.β + off + j) hlt
                      simp [World.cell?, p1, this]
                      rw [Nat.add_assoc]
                      exact e3
                · cases h2
              · rename_i xs hz
                split at h2
                · rename_i C' vs' e2
                  cases hes : Nat.beq es 1
                  · simp [hes] at h2
                  · simp only [hes, cond_true, Option.some.injEq, Prod.mk.injEq] at h2
                    obtain ⟨rfl, rfl⟩ := h2
                    have hes1 := Nat.eq_of_beq_eq_true hes
                    subst hes1
                    refine ⟨?_, ih e2 hC.2 h3.2⟩
                    have hle : off + len ≤ xs.length := hC.1
                    rw [partV_eq]
                    have hll : ((xs.drop off).take len).length = len := by simp; omega
                    obtain ⟨A, c, rfl, q1, q2⟩ := lent_R (κ := sigOf σ ns) hM hfs hl hd hlent hz hC.1 h3.1
                    refine ⟨A, c, by rw [hll], by rw [hll]; exact q1, fun hp => ?_⟩
                    rw [hll] at hp
                    obtain ⟨ad, rfl, o1, o2⟩ := q2 hp
                    refine ⟨ad, rfl, o1, fun j hj => ?_⟩
                    rw [hll] at hj
                    obtain ⟨s, v, a1, a2, a3⟩ := o2 j hj
                    have hget : xs[off + j]? = some (xs.getD (off + j) []) := by
                      rw [List.getD_eq_getElem?_getD, List.getElem?_eq_getElem (by omega)]; rfl
                    have hs : s = .ro .u8 (xs.getD (off + j) []) := by
                      have : (xs[off + j]?).map (VK.sc .row) = some s := a1
                      rw [hget] at this
                      injection this with this
                      exact this.symm
                    subst hs
                    have : ((xs.drop off).take len).getD j [] = xs.getD (off + j) [] := by
                      simp [List.getD_eq_getElem?_getD, List.getElem?_take, List.getElem?_drop, hj]
                    rw [this]
                    exact ⟨v, a2, hg.ro a3⟩
                · cases h2
              · cases h2
            | nils =>
              simp only [lendAll] at h2
              split at h2
              · rename_i C' vs' e2
                simp only [Option.some.injEq, Prod.mk.injEq] at h2
                obtain ⟨rfl, rfl⟩ := h2
                exact ⟨⟨none, 0, h3.1, Nat.le_refl _, fun h => absurd h (Nat.lt_irrefl _)⟩, ih e2 hC h3.2⟩
              · cases h2
            | _ => simp [lendAll] at h2
        | ros =>
          cases v with
          | ints _ _ _ => simp [lendAll] at h2
          | agg l => simp [lendAll] at h2
          | tup l => simp [lendAll] at h2
          | sc s =>
            cases s with
            | ros xs =>
              simp only [lendAll] at h2
              split at h2
              · rename_i C' vs' e2
                simp only [Option.some.injEq, Prod.mk.injEq] at h2
                obtain ⟨rfl, rfl⟩ := h2
                exact ⟨AVR.grow (v := .sc (.ros xs)) (σ := sigOf σ ns) hg h3.1, ih e2 hC h3.2⟩
              · cases h2
            | nils =>
              simp only [lendAll] at h2
              split at h2
              · rename_i C' vs' e2
                simp only [Option.some.injEq, Prod.mk.injEq] at h2
                obtain ⟨rfl, rfl⟩ := h2
                exact ⟨⟨none, 0, h3.1, Nat.le_refl _, fun h => absurd h (Nat.lt_irrefl _)⟩, ih e2 hC h3.2⟩
              · cases h2
            | sl b off len es cap =>
              simp only [lendAll] at h2
              split at h2
              · rename_i xs hz
                split at h2
                · rename_i C' vs' e2
                  cases hes : Nat.beq es 1
                  · simp [hes] at h2
                  · simp only [hes, cond_true, Option.some.injEq, Prod.mk.injEq] at h2
                    obtain ⟨rfl, rfl⟩ := h2
                    have hes1 := Nat.eq_of_beq_eq_true hes
                    subst hes1
                    refine ⟨?_, ih e2 hC.2 h3.2⟩
                    have hle : off + len ≤ xs.length := hC.1
                    rw [partV_eq]
                    have hll : ((xs.drop off).take len).length = len := by simp; omega
                    obtain ⟨A, c, rfl, q1, q2⟩ := lent_R (κ := sigOf σ ns) hM hfs hl hd hlent hz hC.1 h3.1
                    refine ⟨A, c, by rw [hll], by rw [hll]; exact q1, fun hp => ?_⟩
                    rw [hll] at hp
                    obtain ⟨ad, rfl, o1, o2⟩ := q2 hp
                    refine ⟨ad, rfl, o1, fun j hj => ?_⟩
                    rw [hll] at hj
                    obtain ⟨s, v, a1, a2, a3⟩ := o2 j hj
                    have hget : xs[off + j]? = some (xs.getD (off + j) ⟨#[]⟩) := by
                      rw [List.getD_eq_getElem?_getD, List.getElem?_eq_getElem (by omega)]; rfl
                    have hs : s = .s (xs.getD (off + j) ⟨#[]⟩) := by
                      have : (xs[off + j]?).map (VK.sc .str) = some s := a1
                      rw [hget] at this
                      injection this with this
                      exact this.symm
                    subst hs
                    have : ((xs.drop off).take len).getD j ⟨#[]⟩ = xs.getD (off + j) ⟨#[]⟩ := by
                      simp [List.getD_eq_getElem?_getD, List.getElem?_take, List.getElem?_drop, hj]
                    rw [this]
                    have a3' : v = .string (xs.getD (off + j) ⟨#[]⟩) := a3
                    rw [← a3']
                    exact a2
                · cases h2
              · rename_i l hz
                split at h2
                · rename_i xs C' vs' e1 e2
                  cases hes : Nat.beq es 1
                  · simp [hes] at h2
                  · simp only [hes, cond_true, Option.some.injEq, Prod.mk.injEq] at h2
                    obtain ⟨rfl, rfl⟩ := h2
                    have hes1 := Nat.eq_of_beq_eq_true hes
                    subst hes1
                    refine ⟨?_, ih e2 hC.2 h3.2⟩
                    have hle : off + len ≤ l.length := hC.1
                    have hll : xs.length = len := by rw [VK.unL_len e1]; simp; omega
                    obtain ⟨A, c, rfl, q1, q2⟩ := lent_R (κ := sigOf σ ns) hM hfs hl hd hlent hz hC.1 h3.1
                    refine ⟨A, c, by rw [hll], by rw [hll]; exact q1, fun hp => ?_⟩
                    rw [hll] at hp
                    obtain ⟨ad, rfl, o1, o2⟩ := q2 hp
                    refine ⟨ad, rfl, o1, fun j hj => ?_⟩
                    rw [hll] at hj
                    obtain ⟨s, v, a1, a2, a3⟩ := o2 j hj
                    have hx : xs[j]? = some (xs.getD j ⟨#[]⟩) := by
                      rw [List.getD_eq_getElem?_getD, List.getElem?_eq_getElem (by omega)]; rfl
                    obtain ⟨s', b1, b2⟩ := VK.unL_get e1 hx
                    have hs : s' = s := by
                      have c1 : l[off + j]? = some s := a1
                      rw [List.getElem?_take, if_pos hj, List.getElem?_drop, c1] at b1
                      injection b1 with b1
                      exact b1.symm
                    subst hs
                    have a3' : v = .string (xs.getD j ⟨#[]⟩) := VK.un_R b2 a3
                    rw [← a3']
                    exact a2
                · cases h2
              · cases h2
            | _ => simp [lendAll] at h2

theorem Blk.grow {E E' : Env} {σ : Sig} {k : Blk} {w : World} (hg : Grow E E') : ∀ {L : Pl}, (∀ l, L = .at l → ¬ E'.fz l.g) → BlkR E σ w k L → BlkR E' σ w k L
  | .unset, _, h => h
  | .nil, _, h => h
  | .at L, hz, h => by
    obtain ⟨g1, arr, elem, lo, hi, q1, q2, q3, q4, q5, q6⟩ := h
    refine ⟨g1, arr, elem, lo, hi, q1, q2, q3, hz L rfl, q5, fun j s hs => ?_⟩
    obtain ⟨v, e1, e2⟩ := q6 j s hs
    exact ⟨v, e1, ScR.grow hg e2⟩

theorem downB_at {ns : Ren} : ∀ {ks ks' : List Blk}, downB ns ks = some ks' → ks'.length = ks.length ∧ ∀ (j : Nat) (k' : Blk), ks'[j]? = some k' → ∃ k, ks[j]? = some k ∧ k.ren ns = some k'
  | [], ks', h => by
    simp only [downB, Option.some.injEq] at h
    subst h
    exact ⟨rfl, fun j k' hk => by simp at hk⟩
  | k :: r, ks', h => by
    simp only [downB] at h
    split at h
    · rename_i k1 r1 h1 h2
      simp only [Option.some.injEq] at h
      subst h
      obtain ⟨i1, i2⟩ := downB_at h2
      refine ⟨by simp [i1], fun j k' hk => ?_⟩
      cases j with
      | zero =>
        simp only [List.getElem?_cons_zero, Option.some.injEq] at hk
        subst hk
        exact ⟨k, rfl, h1⟩
      | succ j => exact i2 j k' (by simpa using hk)
    · cases h
theorem upB_at {up : Ren} : ∀ {l l' : List (Option Blk)}, upB up l = some l' → l'.length = l.length ∧ ∀ (j : Nat) (k' : Blk), l'[j]? = some (some k') → ∃ k, l[j]? = some (some k) ∧ k.ren up = some k'
  | [], l', h => by
    simp only [upB, Option.some.injEq] at h
    subst h
    exact ⟨rfl, fun j k' hk => by simp at hk⟩
  | none :: r, l', h => by
    simp only [upB] at h
    split at h
    · rename_i r1 h2
      simp only [Option.some.injEq] at h
      subst h
      obtain ⟨i1, i2⟩ := upB_at h2
      refine ⟨by simp [i1], fun j k' hk => ?_⟩
      cases j with
      | zero => simp at hk
      | succ j => exact i2 j k' (by simpa using hk)
    · cases h
  | some k :: r, l', h => by
    simp only [upB] at h
    split at h
    · rename_i k1 r1 h1 h2
      simp only [Option.some.injEq] at h
      subst h
      obtain ⟨i1, i2⟩ := upB_at h2
      refine ⟨by simp [i1], fun j k' hk => ?_⟩
      cases j with
      | zero =>
        simp only [List.getElem?_cons_zero, Option.some.injEq] at hk
        subst hk
        exact ⟨k, rfl, h1⟩
      | succ j => exact i2 j k' (by simpa using hk)
    · cases h
theorem zipN_look {i : Nat} : ∀ {l : List Blk} {b : Nat} {k : Blk}, look b (zipN i l) = some k → ∃ j, b = i + j ∧ l[j]? = some k
  | l, b, k, h => by
    induction l generalizing i with
    | nil => cases h
    | cons x r ih =>
      simp only [zipN, look] at h
      by_cases e : i = b
      · subst e
        simp only [beqT, cond_true, Option.some.injEq] at h
        exact ⟨0, rfl, by simp [h]⟩
      · simp only [beqF e, cond_false] at h
        obtain ⟨j, h1, h2⟩ := ih h
        exact ⟨j + 1, by omega, by simpa using h2⟩
theorem zipO_get {i : Nat} : ∀ {l : List (Option Blk)} {j : Nat} {k : Blk}, l[j]? = some (some k) → look (i + j) (zipO i l) = some k
  | l, j, k, h => by
    induction l generalizing i j with
    | nil => simp at h
    | cons x r ih =>
      cases j with
      | zero =>
        simp only [List.getElem?_cons_zero, Option.some.injEq] at h
        subst h
        simp [zipO, look, beqT]
      | succ j =>
        have := ih (i := i + 1) (j := j) (by simpa using h)
        rw [show i + (j + 1) = i + 1 + j by omega]
        cases x with
        | none => exact this
        | some y =>
          simp only [zipO, look]
          have e : i ≠ i + 1 + j := by omega
          simp only [beqF e, cond_false]
          exact this
theorem putAll_at {M' : Mem} {c : Nat} {k : Blk} (hk : look c M' = some k) : ∀ {ns : List Nat} {ks : List (Option Blk)} {M : Mem}, putAll ns ks M = some M' → (∃ i : Nat, ns[i]? = some c ∧ ks[i]? = some (some k)) ∨ (c ∉ ns ∧ look c M = some k)
  | [], [], M, h => by
    simp only [putAll, Option.some.injEq] at h
    subst h
    exact .inr ⟨by simp, hk⟩
  | [], _ :: _, M, h => by simp [putAll] at h
  | _ :: _, [], M, h => by simp [putAll] at h
  | b :: r, x :: ks, M, h => by
    simp only [putAll] at h
    rcases putAll_at hk h with ⟨i, h1, h2⟩ | ⟨h1, h2⟩
    · exact .inl ⟨i + 1, by simpa using h1, by simpa using h2⟩
    · cases x with
      | none =>
        simp only [put0, look_drop1] at h2
        split at h2
        · cases h2
        · rename_i e
          exact .inr ⟨by simp only [List.mem_cons, not_or]; exact ⟨e, h1⟩, h2⟩
      | some y =>
        simp only [put0, look_put1] at h2
        split at h2
        · rename_i e
          injection h2 with h2
          exact .inl ⟨0, by simp [e], by simp [h2]⟩
        · rename_i e
          exact .inr ⟨by simp only [List.mem_cons, not_or]; exact ⟨e, h1⟩, h2⟩

theorem downN_mem {j b : Nat} (h : fs[j]? = some b) : (b, j) ∈ downN fs := by
  have hj := (List.getElem?_eq_some_iff.1 h).1
  refine List.mem_iff_getElem?.2 ⟨j, ?_⟩
  unfold downN
  rw [List.getElem?_zip_eq_some]
  exact ⟨h, by rw [List.getElem?_range hj]⟩
theorem upN_mem {j c : Nat} : (j, c) ∈ upN fs nm nb ↔ (fs ++ (List.range nb).map (nm + ·))[j]? = some c := by
  unfold upN
  constructor
  · intro h
    obtain ⟨i, hi⟩ := List.mem_iff_getElem?.1 h
    rw [List.getElem?_zip_eq_some] at hi
    obtain ⟨h1, h2⟩ := hi
    have hi' := (List.getElem?_eq_some_iff.1 h1).1
    simp only [List.length_range] at hi'
    rw [List.getElem?_range hi'] at h1
    injection h1 with h1
    subst h1
    exact h2
  · intro h
    have hj := (List.getElem?_eq_some_iff.1 h).1
    simp only [List.length_append, List.length_map, List.length_range] at hj
    refine List.mem_iff_getElem?.2 ⟨j, ?_⟩
    rw [List.getElem?_zip_eq_some]
    exact ⟨by rw [List.getElem?_range hj], h⟩
theorem up_cases {j c : Nat} (h : (fs ++ (List.range nb).map (nm + ·))[j]? = some c) : (j < fs.length ∧ fs[j]? = some c) ∨ (fs.length ≤ j ∧ j - fs.length < nb ∧ c = nm + (j - fs.length)) := by
  by_cases hj : j < fs.length
  · rw [List.getElem?_append_left hj] at h
    exact .inl ⟨hj, h⟩
  · rw [List.getElem?_append_right (by omega)] at h
    simp only [List.getElem?_map, Option.map_eq_some_iff] at h
    obtain ⟨i, h1, h2⟩ := h
    have h3 := (List.getElem?_eq_some_iff.1 h1).1
    simp only [List.length_range] at h3
    rw [List.getElem?_range h3] at h1
    injection h1 with h1
    subst h1
    exact .inr ⟨by omega, h3, h2.symm⟩

/-- What is handed in. -/
theorem handed (hM : MemR E σ M w) (hfs : lookAll M fs = some kfs) {ks' : List Blk} (hns : renOk (downN fs) big = true) (hdn : downB (downN fs) kfs = some ks') :
    MemR (callE E σ w fs lent (sigOf σ (downN fs))) (sigOf σ (downN fs)) (zipN 0 ks') w := by
  obtain ⟨l1, l2⟩ := downB_at hdn
  obtain ⟨f1, f2⟩ := lookAll_at hfs
  have at1 : ∀ b k', look b (zipN 0 ks') = some k' → ∃ c k, fs[b]? = some c ∧ look c M = some k ∧ k.ren (downN fs) = some k' ∧ sigOf σ (downN fs) b = σ c := by
    intro b k' hb
    obtain ⟨j, rfl, hj⟩ := zipN_look hb
    obtain ⟨k, e1, e2⟩ := l2 j k' hj
    have hlt := (List.getElem?_eq_some_iff.1 e1).1
    have hc : fs[j]? = some (fs[j]'(by omega)) := List.getElem?_eq_getElem _
    obtain ⟨k2, e3, e4⟩ := f2 j _ hc
    rw [e1] at e3
    injection e3 with e3
    subst e3
    have hmem := downN_mem hc
    rw [Nat.zero_add]
    exact ⟨_, k, hc, e4, e2, sigOf_at hns (renOk_mem hns hmem).2.2⟩
  refine { blk := ?_, inj := ?_, old := fun _ _ => rfl, size := Nat.le_refl _, olds := fun g hg => hg.1, os := rfl, tape := rfl, output := rfl }
  · intro b k' hb
    obtain ⟨c, k, e1, e2, e3, e4⟩ := at1 b k' hb
    rw [e4]
    have hB := Blk.ren_R hns e3 (hM.blk c k e2)
    refine Blk.grow (grow0 hM hfs) (fun l hl hz => ?_) hB
    exact hz.2 ⟨c, List.mem_of_getElem? e1, l, hl, rfl⟩
  · intro b c x y L L' hb hc hL hL' hg
    obtain ⟨b1, k1, e1, e2, e3, e4⟩ := at1 b x hb
    obtain ⟨c1, k2, e5, e6, e7, e8⟩ := at1 c y hc
    have := hM.inj b1 c1 k1 k2 L L' e2 e6 (e4 ▸ hL) (e8 ▸ hL') hg
    subst this
    have h1 := (renOk_mem hns (downN_mem e1)).2.2
    have h2 := (renOk_mem hns (downN_mem e5)).2.2
    rw [h1] at h2
    injection h2

/-! ### back at the caller's -/
def backE (E E0 E1 : Env) (lent : Bool) : Env :=
  { P := E.P, w0 := E1.w0, old := fun g => (if lent = true then E.old g else E1.old g) ∧ (E.fz g ∨ (E1.fz g ∧ ¬ E0.fz g)), fz := fun g => E.fz g ∨ (E1.fz g ∧ ¬ E0.fz g), sub := fun _ h => h.2, kp := E.kp }
def sigUp (σ σ' : Sig) (up : Ren) : Sig := fun c => match sigOf σ' up c with
  | .unset => σ c
  | x => x
theorem back_grow {E1 : Env} (hg : Grow E E0) (hg' : Grow E0 E1) (hl : lent = false → ∀ g, E0.old g → E.old g) : Grow E (backE E E0 E1 lent) where
  P := rfl
  old g h := ⟨by split; exact h; exact hg'.old g (hg.old g h), .inl (E.sub g h)⟩
  fz g h := .inl h
  w0 g h := (hg'.w0 g (hg.fz g h)).trans (hg.w0 g h)
  new g h := by
    cases hb : lent with
    | true =>
      have h1 := h.1
      rw [if_pos hb] at h1
      exact .inl h1
    | false =>
      have h1 := h.1
      rw [if_neg (by rw [hb]; decide)] at h1
      rcases hg'.new g h1 with h2 | h2
      · exact .inl (hl hb g h2)
      · exact .inr fun h3 => h2 (hg.fz g h3)
  size := Nat.le_trans hg.size hg'.size
  os := hg'.os.trans hg.os
  tape := hg'.tape.trans hg.tape
  output := hg'.output.trans hg.output
theorem back_old {E1 : Env} (hg : Grow E E0) (hg' : Grow E0 E1) (hl : lent = false → ∀ g, E0.old g → E.old g) : lent = false → ∀ g, E1.old g → (backE E E0 E1 lent).old g := by
  intro hb g h
  refine ⟨by rw [if_neg (by rw [hb]; decide)]; exact h, ?_⟩
  rcases hg'.new g h with h2 | h2
  · exact .inl (E.sub g (hl hb g h2))
  · exact .inr ⟨E1.sub g h, h2⟩

/-- What is known of a function that looks at nothing else holds of its calls. -/
theorem sound_of_pure {P : Program} {G : Globs} {f : FuncId} {ps : List Pass} {ms fs : List Nat} {nb : Nat} {spec : List AV → List Blk → Option (Prop × Ret)} (hnb : nb ≤ 16) (h : PureAt P G f fs.length spec) : SoundAt P G f (callD ps ms fs nb spec) := by
  intro E σ M w args Vs nm A C v M' hP hG hM hargs hn hA hrun hC
  unfold callD at hA
  cases hck : renOk (downN fs) big && renOk (upN fs nm nb) big && ms.all (fun b => !fs.any (Nat.beq b))
  · simp [hck] at hA
  simp only [hck, cond_true, Option.some.injEq] at hA
  subst hA
  simp only [Bool.and_eq_true] at hck
  obtain ⟨⟨hns, hup⟩, hdis⟩ := hck
  have hd : ∀ b ∈ ms, b ∉ fs := by
    intro b hb hf
    rw [List.all_eq_true] at hdis
    have h1 := hdis b hb
    have h2 : fs.any (Nat.beq b) = true := List.any_eq_true.2 ⟨b, hf, beqT b⟩
    rw [h2] at h1
    cases h1
  unfold Deed.run at hrun
  simp only at hrun
  split at hrun
  · cases hrun
  rename_i ks hks
  obtain ⟨hl, hfs⟩ := lookAll_append hks
  split at hrun
  · cases hrun
  rename_i C1 v1 cs hgo
  split at hrun
  · cases hrun
  rename_i M1 hput
  simp only [Option.some.injEq, Prod.mk.injEq] at hrun
  obtain ⟨rfl, rfl, rfl⟩ := hrun
  split at hgo
  rotate_left
  · cases hgo
  rename_i C2 vs ks' hlend hdown
  split at hgo
  rotate_left
  · cases hgo
  rename_i C3 r hspec
  split at hgo
  rotate_left
  · cases hgo
  rename_i v2 bs hv2 hbs
  cases hpl : Nat.beq r.bs.length (fs.length + nb) && (ms.isEmpty || r.plain)
  · simp [hpl] at hgo
  simp only [hpl, cond_true, Option.some.injEq, Prod.mk.injEq] at hgo
  obtain ⟨rfl, rfl, rfl⟩ := hgo
  simp only [Bool.and_eq_true] at hpl
  obtain ⟨hlen, hpl⟩ := hpl
  have hlen := Nat.eq_of_beq_eq_true hlen
  have hplain : (!ms.isEmpty) = true → r.plain = true := by
    intro q
    rw [Bool.or_eq_true] at hpl
    rcases hpl with h1 | h1
    · rw [h1] at q; cases q
    · exact h1
  have hlent : ms ≠ [] → (!ms.isEmpty) = true := by
    intro q
    cases ms with
    | nil => exact absurd rfl q
    | cons _ _ => rfl
  have hg0 : Grow E (callE E σ w fs (!ms.isEmpty) (sigOf σ (downN fs))) := grow0 hM hfs
  have hargs0 := lend_R hM hfs hl hd hlent hns hlend hC.1 hargs
  have hM0 := handed (lent := !ms.isEmpty) hM hfs hns hdown
  have hkl : ks'.length = fs.length := by
    rw [(downB_at hdown).1]
    exact ((lookAll_at hfs).1).symm
  have hkp : ∀ j, fs.length ≤ j → sigOf σ (downN fs) j = .unset := by
    intro j hj
    unfold sigOf
    split
    · rename_i b hb
      have hmem := look_mem hb
      unfold turned at hmem
      obtain ⟨p, hp, he⟩ := List.mem_map.1 hmem
      simp only [Prod.mk.injEq] at he
      obtain ⟨rfl, rfl⟩ := he
      obtain ⟨i, hi⟩ := List.mem_iff_getElem?.1 hp
      unfold downN at hi
      rw [List.getElem?_zip_eq_some] at hi
      have h3 := (List.getElem?_eq_some_iff.1 hi.2).1
      simp only [List.length_range] at h3
      have h4 := hi.2
      rw [List.getElem?_range h3] at h4
      injection h4 with h4
      omega
    · rfl
  generalize hE0 : callE E σ w fs (!ms.isEmpty) (sigOf σ (downN fs)) = E0 at *
  have hE0kp : E0.kp = sigOf σ (downN fs) := by rw [← hE0]; rfl
  have hE0fz : ∀ g, E0.fz g ↔ (g < w.heap.size ∧ ¬ inFeet σ fs g) := by intro g; rw [← hE0]; exact Iff.rfl
  have hE0old : (!ms.isEmpty) = false → ∀ g, E0.old g → E.old g := by
    intro q g hg
    rw [← hE0] at hg
    rcases hg.1 with h1 | h1
    · exact h1
    · rw [q] at h1; cases h1.1
  have hE0w : E0.w0 = w := by rw [← hE0]; rfl
  refine (h E0 w vs ks' Vs C3 r (hg0.P.trans hP) (hG.grow hg0) hkl (fun j hj => by rw [hE0kp]; exact hkp j hj) (by rw [hE0kp]; exact hM0) (by rw [hE0kp]; exact hargs0) hspec hC.2).mono ?_
  rintro V w' ⟨E1, σ', hg1, hk, r1, r2⟩
  rw [hE0kp] at hk
  have gr := back_grow (lent := !ms.isEmpty) hg0 hg1 hE0old
  have bo := back_old (lent := !ms.isEmpty) hg0 hg1 hE0old
  generalize hup' : upN fs nm nb = up at *
  have upm : ∀ {j c : Nat}, (j, c) ∈ up ↔ (fs ++ (List.range nb).map (nm + ·))[j]? = some c := by
    intro j c
    rw [← hup']
    exact upN_mem
  -- the caller's names
  have sg1 : ∀ {j c : Nat}, (j, c) ∈ up → sigOf σ' up c = σ' j := fun hm => sigOf_at hup (renOk_mem hup hm).2.2
  have sg0 : ∀ c, (∀ j, (j, c) ∉ up) → sigOf σ' up c = .unset := by
    intro c hc
    unfold sigOf
    split
    · rename_i b hb
      have hmem := look_mem hb
      unfold turned at hmem
      obtain ⟨p, hp, he⟩ := List.mem_map.1 hmem
      simp only [Prod.mk.injEq] at he
      obtain ⟨rfl, rfl⟩ := he
      exact absurd hp (hc p.1)
    · rfl
  have feet_sig : ∀ {j c : Nat}, fs[j]? = some c → σ' j = σ c ∨ σ' j = .unset := by
    intro j c hc
    have hj := (List.getElem?_eq_some_iff.1 hc).1
    rcases hk j hj with h1 | h1
    · refine .inl ?_
      rw [h1]
      exact sigOf_at hns (renOk_mem hns (downN_mem hc)).2.2
    · exact .inr h1
  have same : ∀ c, ¬ (nm ≤ c ∧ c < nm + 16) → sigUp σ σ' up c = σ c := by
    intro c hc
    unfold sigUp
    by_cases he : ∃ j, (j, c) ∈ up
    · obtain ⟨j, hj⟩ := he
      rw [sg1 hj]
      rcases up_cases (upm.1 hj) with ⟨q1, q2⟩ | ⟨q1, q2, q3⟩
      · rcases feet_sig q2 with h1 | h1
        · rw [h1]
          cases σ c <;> rfl
        · rw [h1]
      · omega
    · rw [sg0 c fun j hj => he ⟨j, hj⟩]
  have hx : Ext σ (sigUp σ σ' up) := by
    intro c hc
    by_cases hr : nm ≤ c ∧ c < nm + 16
    · exact absurd (hn c hr.1 hr.2) hc
    · exact same c hr
  have hx' : Ext (sigOf σ' up) (sigUp σ σ' up) := by
    intro c hc
    unfold sigUp
    cases hs : sigOf σ' up c with
    | unset => exact absurd hs hc
    | nil => rfl
    | «at» L => rfl
  have rp : (!ms.isEmpty) = true → r.v.plain = true ∧ r.bs.all OBlk.plain = true := by
    intro q
    have := hplain q
    unfold Ret.plain at this
    rw [Bool.and_eq_true] at this
    exact this
  refine ⟨backE E E0 E1 (!ms.isEmpty), sigUp σ σ' up, gr, hx, same, ?_, ?_⟩
  · exact (AV.ren_R hup hv2 (AV.env bo rfl (fun q => (rp q).1) r1)).ext hx'
  -- what each name holds
  have hcase : ∀ c k, look c M1 = some k → (∃ j k0, (j, c) ∈ up ∧ look j (zipO 0 r.bs) = some k0 ∧ r.bs[j]? = some (some k0) ∧ k0.ren up = some k) ∨ (c ∉ fs ∧ look c M = some k) := by
    intro c k hck
    rcases putAll_at hck hput with ⟨i, h1, h2⟩ | ⟨h1, h2⟩
    · obtain ⟨k0, h3, h4⟩ := (upB_at hbs).2 i k h2
      refine .inl ⟨i, k0, upm.2 h1, ?_, h3, h4⟩
      have := zipO_get (i := 0) h3
      simpa using this
    · exact .inr ⟨fun hf => h1 (List.mem_append_left _ hf), h2⟩
  have hzz : ∀ g, ¬ E1.fz g → ¬ (backE E E0 E1 (!ms.isEmpty)).fz g := by
    intro g h1 h2
    rcases h2 with h2 | h2
    · exact h1 (hg1.fz g (hg0.fz g h2))
    · exact h1 h2.1
  have other : ∀ c k, c ∉ fs → look c M = some k → ∀ L, σ c = .at L → E0.fz L.g := by
    intro c k hcf hc L hL
    have hB := hM.blk c k hc
    rw [hL] at hB
    obtain ⟨_, arr, elem, lo, hi, q1, _⟩ := hB
    refine (hE0fz _).2 ⟨heap_lt q1, ?_⟩
    rintro ⟨b, hb, L', hL', he⟩
    obtain ⟨kb, hkb⟩ := feet_at hfs hb
    have := hM.inj b c kb k L' L hkb hc hL' hL he
    subst this
    exact hcf hb
  have heap' : ∀ g, E0.fz g → w'.heap[g]? = w.heap[g]? := by
    intro g hg
    rw [r2.old g (hg1.fz g hg), hg1.w0 g hg, hE0w]
  have notnew : ∀ c k, c ∉ fs → look c M = some k → (∀ j, (j, c) ∉ up) ∨ σ c = .unset := by
    intro c k hcf hc
    by_cases he : ∃ j, (j, c) ∈ up
    · obtain ⟨j, hj⟩ := he
      rcases up_cases (upm.1 hj) with ⟨q1, q2⟩ | ⟨q1, q2, q3⟩
      · exact absurd (List.mem_of_getElem? q2) hcf
      · exact .inr (hn c (by omega) (by omega))
    · exact .inl fun j hj => he ⟨j, hj⟩
  refine { blk := ?_, inj := ?_, old := ?_, size := ?_, olds := ?_, os := ?_, tape := ?_, output := ?_ }
  · intro c k hck
    rcases hcase c k hck with ⟨j, k0, h1, h2, h3, h4⟩ | ⟨h1, h2⟩
    · have hB := r2.blk j k0 h2
      have hp : (!ms.isEmpty) = true → k0.plain = true := by
        intro q
        have := (rp q).2
        rw [List.all_eq_true] at this
        exact this _ (List.mem_of_getElem? h3)
      have hB2 := Blk.ren_R hup h4 (Blk.env bo rfl hzz hp hB)
      have hne : σ' j ≠ .unset := by intro e; rw [e] at hB; exact hB
      have e1 : sigUp σ σ' up c = σ' j := by
        rw [hx' c (by rw [sg1 h1]; exact hne), sg1 h1]
      rw [e1]
      exact hB2.ext hx'
    · have hB := hM.blk c k h2
      have hne : σ c ≠ .unset := by intro e; rw [e] at hB; exact hB
      rw [hx c hne]
      refine BlkR.ext hx (BlkR.same (w := w) (fun L hL => heap' _ (other c k h1 h2 L hL)) (Blk.grow gr (fun L hL hz => ?_) hB))
      have ho := other c k h1 h2 L hL
      rcases hz with hz | hz
      · rw [hL] at hB
        obtain ⟨_, arr, elem, lo, hi, _, _, _, q4, _⟩ := hB
        exact q4 hz
      · exact hz.2 ho
  · intro b c x y L L' hb hc hL hL' hg
    have newL : ∀ c k, (∃ j k0, (j, c) ∈ up ∧ look j (zipO 0 r.bs) = some k0 ∧ r.bs[j]? = some (some k0) ∧ k0.ren up = some k) → ∀ L, sigUp σ σ' up c = .at L → ∃ j k0, (j, c) ∈ up ∧ look j (zipO 0 r.bs) = some k0 ∧ σ' j = .at L ∧ ¬ E1.fz L.g := by
      rintro c k ⟨j, k0, h1, h2, h3, h4⟩ L hL
      have hB := r2.blk j k0 h2
      have hne : σ' j ≠ .unset := by intro e; rw [e] at hB; exact hB
      have e1 : sigUp σ σ' up c = σ' j := by
        rw [hx' c (by rw [sg1 h1]; exact hne), sg1 h1]
      rw [e1] at hL
      rw [hL] at hB
      obtain ⟨_, arr, elem, lo, hi, _, _, _, q4, _⟩ := hB
      exact ⟨j, k0, h1, h2, hL, q4⟩
    have oldL : ∀ c k, c ∉ fs → look c M = some k → ∀ L, sigUp σ σ' up c = .at L → σ c = .at L ∧ E1.fz L.g := by
      intro c k h1 h2 L hL
      have hB := hM.blk c k h2
      have hne : σ c ≠ .unset := by intro e; rw [e] at hB; exact hB
      rw [hx c hne] at hL
      exact ⟨hL, hg1.fz _ (other c k h1 h2 L hL)⟩
    rcases hcase b x hb with h1 | ⟨h1, h2⟩
    · obtain ⟨j, k0, p1, p2, p3, p4⟩ := newL b x h1 L hL
      rcases hcase c y hc with h3 | ⟨h3, h4⟩
      · obtain ⟨i, k1, q1, q2, q3, q4⟩ := newL c y h3 L' hL'
        have := r2.inj j i k0 k1 L L' p2 q2 p3 q3 hg
        subst this
        have e1 := (renOk_mem hup p1).2.2
        have e2 := (renOk_mem hup q1).2.2
        rw [e1] at e2
        injection e2
      · obtain ⟨q1, q2⟩ := oldL c y h3 h4 L' hL'
        exact absurd (hg ▸ q2) p4
    · obtain ⟨p1, p2⟩ := oldL b x h1 h2 L hL
      rcases hcase c y hc with h3 | ⟨h3, h4⟩
      · obtain ⟨i, k1, q1, q2, q3, q4⟩ := newL c y h3 L' hL'
        exact absurd (hg ▸ p2) q4
      · obtain ⟨q1, q2⟩ := oldL c y h3 h4 L' hL'
        exact hM.inj b c x y L L' h2 h4 p1 q1 hg
  · intro g hg
    rcases hg with hg | hg
    · exact r2.old g (hg1.fz g (hg0.fz g hg))
    · exact r2.old g hg.1
  · exact r2.size
  · intro g hg
    rcases hg with hg | hg
    · exact r2.olds g (hg1.fz g (hg0.fz g hg))
    · exact r2.olds g hg.1
  · exact r2.os
  · exact r2.tape
  · exact r2.output
end
end
end Go.Vm
