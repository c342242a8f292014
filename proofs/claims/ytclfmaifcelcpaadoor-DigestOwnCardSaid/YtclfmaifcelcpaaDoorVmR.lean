/- A call whose function looks at nothing but its arguments, as a deed of the caller's. -/
import Derived.Test.YtclfmaifcelcpaaDoorVmQ
set_option linter.unusedVariables false
set_option linter.unusedSimpArgs false
namespace Go.Vm
open Go

/-- Values that name nothing that was there before. -/
def Sc.own (nb : Nat) : Sc → Bool
  | .p g _ => Nat.blt g nb
  | .sl g _ _ _ _ => Nat.blt g nb
  | .b _ | .i _ _ | .s _ | .nilp | .nils => true
  | _ => false
def A1.own (nb : Nat) : A1 → Bool
  | .sc s => s.own nb
  | .agg l => l.all (Sc.own nb)
  | .ints _ _ _ => true
def AV.own (nb : Nat) : AV → Bool
  | .sc s => s.own nb
  | .agg l => l.all (Sc.own nb)
  | .ints _ _ _ => true
  | .tup l => l.all (A1.own nb)
def Blk.own (nb : Nat) : Blk → Bool
  | .ints _ _ _ => true
  | .cells l => l.all (Sc.own nb)

def Ret.own (nb : Nat) (r : Ret) : Bool := Nat.beq r.bs.length nb && r.v.own nb && r.bs.all (Blk.own nb)

def Sc.up (nm : Nat) : Sc → Sc
  | .p g o => .p (nm + g) o
  | .sl g off len es cap => .sl (nm + g) off len es cap
  | x => x
def A1.lift (nm : Nat) : A1 → A1
  | .sc s => .sc (s.up nm)
  | .agg l => .agg (l.map (Sc.up nm))
  | .ints k n xs => .ints k n xs
def AV.up (nm : Nat) : AV → AV
  | .sc s => .sc (s.up nm)
  | .agg l => .agg (l.map (Sc.up nm))
  | .ints k n xs => .ints k n xs
  | .tup l => .tup (l.map (A1.lift nm))
def Blk.up (nm : Nat) : Blk → Blk
  | .ints k n xs => .ints k n xs
  | .cells l => .cells (l.map (Sc.up nm))

/-- How a parameter is handed over: as it is; or as integers that are only read. -/
inductive Pass where
  | val
  | ro (k : IntKind)
  | rob (ft : List (Nat × List Nat))

/-- The blocks that a call's rows lie in. -/
def feet (ft : List (Nat × List Nat)) (nm : Nat) : List Nat := match look nm ft with
  | some l => l
  | none => []

def lendRd (nm : Nat) : List Pass → List AV → List Nat
  | .ro _ :: ps, .sc (.sl b _ _ _ _) :: r => b :: lendRd nm ps r
  | .rob ft :: ps, .sc (.sl b _ _ _ _) :: r => b :: (feet ft nm ++ lendRd nm ps r)
  | _ :: ps, _ :: r => lendRd nm ps r
  | _, _ => []

/-- Some of a list; all of it, where that is plain. -/
def part1 (xs : List Int) (n off len : Nat) : List Int := bif Nat.beq len n && Nat.beq off 0 then xs else (xs.drop off).take len

theorem part1_eq {xs : List Int} {n off len : Nat} (h : xs.length = n) : part1 xs n off len = (xs.drop off).take len := by
  unfold part1
  cases hb : (Nat.beq len n && Nat.beq off 0)
  · rfl
  · rw [Bool.and_eq_true] at hb
    have h1 := Nat.eq_of_beq_eq_true hb.1
    have h2 := Nat.eq_of_beq_eq_true hb.2
    subst h1 h2
    simp only [cond_true, List.drop_zero]
    rw [List.take_of_length_le (by omega)]

theorem part1_all {xs : List Int} {n : Nat} (h : xs.length = n) : part1 xs n 0 n = xs := by
  rw [part1_eq h, List.drop_zero, List.take_of_length_le (by omega)]

def lookZ (b : Nat) : List Nat → List Blk → Option Blk
  | m :: ms, k :: ks => bif Nat.beq m b then some k else lookZ b ms ks
  | _, _ => none

/-- A row, as integers that are only read. -/
def rowOf (ms : List Nat) (ks : List Blk) : Sc → Option (Prop × List Int)
  | .ro .u8 xs => some (True, xs)
  | .nils => some (True, [])
  | .sl b off len 1 _ => match lookZ b ms ks with
    | some (.ints .u8 n xs) => some (off + len ≤ n, part1 xs n off len)
    | some (.cells []) => some (len = 0, [])
    | _ => none
  | _ => none
def rowsOf (ms : List Nat) (ks : List Blk) : List Sc → Option (Prop × List (List Int))
  | [] => some (True, [])
  | s :: r => match rowOf ms ks s, rowsOf ms ks r with
    | some (C, xs), some (C', xss) => some (C ∧ C', xs :: xss)
    | _, _ => none

/-- The arguments as the function sees them. -/
def lendAll (nm : Nat) : List Pass → List AV → List Blk → Option (Prop × List AV)
  | [], [], _ => some (True, [])
  | .ro k :: ps, .sc (.sl _ off len es _) :: r, blk :: ks => match blk with
    | .ints k' n xs => (match lendAll nm ps r ks with
      | some (C, vs) => if k' = k then (bif Nat.beq es 1 then some (off + len ≤ n ∧ C, .sc (.ro k (part1 xs n off len)) :: vs) else none) else none
      | none => none)
    | .cells _ => none
  | .ro _ :: _, .sc (.sl _ _ _ _ _) :: _, [] => none
  | .ro k :: ps, .sc .nils :: r, ks => (match lendAll nm ps r ks with
    | some (C, vs) => some (C, .sc (.ro k []) :: vs)
    | none => none)
  | .ro k :: ps, .sc (.ro k' xs) :: r, ks => (match lendAll nm ps r ks with
    | some (C, vs) => if k' = k then some (C, .sc (.ro k xs) :: vs) else none
    | none => none)
  | .rob ft :: ps, .sc (.sl _ off len es _) :: r, blk :: ks => match blk with
    | .cells l => (match rowsOf (feet ft nm) ks ((l.drop off).take len), lendAll nm ps r (ks.drop (feet ft nm).length) with
      | some (C0, xss), some (C, vs) => bif Nat.beq es 1 then some ((off + len ≤ l.length ∧ C0) ∧ C, .sc (.rob xss) :: vs) else none
      | _, _ => none)
    | .ints _ _ _ => none
  | .rob _ :: _, .sc (.sl _ _ _ _ _) :: _, [] => none
  | .rob _ :: ps, .sc (.rob xs) :: r, ks => (match lendAll nm ps r ks with
    | some (C, vs) => some (C, .sc (.rob xs) :: vs)
    | none => none)
  | .val :: ps, .sc s :: r, ks => (match s.own 0, lendAll nm ps r ks with
    | true, some (C, vs) => some (C, .sc s :: vs)
    | _, _ => none)
  | .val :: ps, .ints k n xs :: r, ks => (match lendAll nm ps r ks with
    | some (C, vs) => some (C, .ints k n xs :: vs)
    | none => none)
  | _, _, _ => none

/-- The deed of such a call; it makes nb new blocks. -/
def callD (ps : List Pass) (nb : Nat) (spec : List AV → Option (Prop × Ret)) (args : List AV) (nm : Nat) : Option Deed :=
  some { rd := lendRd nm ps args, wr := (List.range nb).map (nm + ·), go := fun ks => match lendAll nm ps args ks with
    | some (C, vs) => (match spec vs with
      | some (C', r) => some (C ∧ C', r.v.up nm, r.bs.map fun k => some (k.up nm))
      | none => none)
    | none => none }

section
variable {E E0 : Env} {σ σ' : Sig} {nm nb : Nat}

/-- The names of the caller's, and the new ones. -/
def sigUp (σ σ' : Sig) (nm nb : Nat) : Sig := fun m => if nm ≤ m ∧ m < nm + nb then σ' (m - nm) else σ m

theorem sigUp_new {j : Nat} (h : j < nb) : sigUp σ σ' nm nb (nm + j) = σ' j := by
  unfold sigUp
  rw [if_pos ⟨by omega, by omega⟩]
  congr 1
  omega

theorem Sc.up_R : ∀ {s : Sc} {V : Value}, s.own nb = true → ScR E0 σ' s V → ScR E (sigUp σ σ' nm nb) (s.up nm) V
  | .b _, _, _, h | .i _ _, _, _, h | .s _, _, _, h | .nilp, _, _, h | .nils, _, _, h => h
  | .p g o, V, ho, ⟨L, h1, h2⟩ => by
    have hg : g < nb := by have := Nat.le_of_ble_eq_true (show Nat.ble (g + 1) nb = true from ho); omega
    exact ⟨L, by rw [sigUp_new hg]; exact h1, h2⟩
  | .sl g off len es cap, V, ho, h => by
    have hg : g < nb := by have := Nat.le_of_ble_eq_true (show Nat.ble (g + 1) nb = true from ho); omega
    rcases h with h | ⟨L, c, h1, h2⟩
    · exact .inl h
    · exact .inr ⟨L, c, by rw [sigUp_new hg]; exact h1, h2⟩

theorem upL_R : ∀ {l : List Sc} {m : List Value}, l.all (Sc.own nb) = true → All2 (ScR E0 σ') l m → All2 (ScR E (sigUp σ σ' nm nb)) (l.map (Sc.up nm)) m
  | [], [], _, _ => trivial
  | x :: r, V :: m, h, h2 => by
    simp only [List.all_cons, Bool.and_eq_true] at h
    exact ⟨Sc.up_R h.1 h2.1, upL_R h.2 h2.2⟩

theorem A1.up_R' {v : A1} {V : Value} (h : v.own nb = true) (h2 : A1R E0 σ' v V) : A1R E (sigUp σ σ' nm nb) (v.lift nm) V := by
  cases v with
  | sc s => exact Sc.up_R h h2
  | agg l => obtain ⟨arr, e1, e2⟩ := h2; exact ⟨arr, e1, upL_R h e2⟩
  | ints k n xs => exact h2

theorem upA1_R : ∀ {l : List A1} {m : List Value}, l.all (A1.own nb) = true → All2 (A1R E0 σ') l m → All2 (A1R E (sigUp σ σ' nm nb)) (l.map (A1.lift nm)) m
  | [], [], _, _ => trivial
  | x :: r, V :: m, h, h2 => by
    simp only [List.all_cons, Bool.and_eq_true] at h
    exact ⟨A1.up_R' h.1 h2.1, upA1_R h.2 h2.2⟩

theorem AV.up_R {v : AV} {V : Value} (h : v.own nb = true) (h2 : AVR E0 σ' v V) : AVR E (sigUp σ σ' nm nb) (v.up nm) V := by
  cases v with
  | sc s => exact Sc.up_R h h2
  | agg l => obtain ⟨arr, e1, e2⟩ := h2; exact ⟨arr, e1, upL_R h e2⟩
  | ints k n xs => exact h2
  | tup l => obtain ⟨arr, e1, e2⟩ := h2; exact ⟨arr, e1, upA1_R h e2⟩

theorem Blk.up_R {k : Blk} {L : Pl} {w : World} (hold : ∀ g, E.old g → E0.old g) (h : k.own nb = true) (h2 : BlkR E0 σ' w k L) : BlkR E (sigUp σ σ' nm nb) w (k.up nm) L := by
  cases k with
  | ints kk n xs =>
    cases L with
    | unset => exact h2
    | nil => exact h2
    | «at» L =>
      obtain ⟨g1, arr, elem, lo, hi, q1, q2, q3, q4, q5, q6⟩ := h2
      refine ⟨g1, arr, elem, lo, hi, q1, q2, q3, fun hx => q4 (hold _ hx), q5, fun j x hx => ?_⟩
      obtain ⟨v, e1, e2⟩ := q6 j x hx
      refine ⟨v, e1, ?_⟩
      simp only [Blk.up, Blk.get?, Option.map_eq_some_iff] at hx
      obtain ⟨_, _, rfl⟩ := hx
      exact e2
  | cells l =>
    cases L with
    | unset => exact h2
    | nil => exact ⟨by have := h2.1; simp only [Blk.up, Blk.len, List.length_map] at this ⊢; exact this, trivial⟩
    | «at» L =>
      obtain ⟨g1, arr, elem, lo, hi, q1, q2, q3, q4, q5, q6⟩ := h2
      refine ⟨trivial, arr, elem, lo, hi, q1, q2, by simp only [Blk.up, Blk.len, List.length_map] at q3 ⊢; exact q3, fun hx => q4 (hold _ hx), q5, fun j x hx => ?_⟩
      simp only [Blk.up, Blk.get?, List.getElem?_map, Option.map_eq_some_iff] at hx
      obtain ⟨y, e1, rfl⟩ := hx
      obtain ⟨v, e3, e4⟩ := q6 j y e1
      refine ⟨v, e3, Sc.up_R ?_ e4⟩
      simp only [Blk.own, List.all_eq_true] at h
      exact h y (List.mem_of_getElem? e1)

theorem zipN_look {i : Nat} : ∀ {l : List Blk} {b : Nat} {k : Blk}, look b (zipN i l) = some k → ∃ j, b = i + j ∧ l[j]? = some k
  | l, b, k, h => by
    induction l generalizing i with
    | nil => cases h
    | cons x r ih =>
      simp only [zipN, look] at h
      by_cases e : i = b
      · subst e
        simp only [beqT, cond_true, Option.some.injEq] at h
        exact ⟨0, rfl, by simp [h]⟩
      · simp only [beqF e, cond_false] at h
        obtain ⟨j, h1, h2⟩ := ih h
        exact ⟨j + 1, by omega, by simpa using h2⟩

theorem zipN_get {i : Nat} : ∀ {l : List Blk} {j : Nat} {k : Blk}, l[j]? = some k → look (i + j) (zipN i l) = some k
  | l, j, k, h => by
    induction l generalizing i j with
    | nil => simp at h
    | cons x r ih =>
      simp only [zipN, look]
      cases j with
      | zero => simp at h; simp [beqT, h]
      | succ j =>
        have e : i ≠ i + (j + 1) := by omega
        simp only [beqF e, cond_false]
        have := ih (i := i + 1) (j := j) (by simpa using h)
        rw [show i + (j + 1) = i + 1 + j by omega]
        exact this

theorem putAll_new {M M' : Mem} : ∀ {i : Nat} {ks : List Blk}, putAll ((List.range' i ks.length).map (nm + ·)) (ks.map some) M = some M' → ∀ m k, look m M' = some k → (∃ j, m = nm + i + j ∧ ks[j]? = some k) ∨ ((∀ j, j < ks.length → m ≠ nm + i + j) ∧ look m M = some k)
  | i, [], h, m, k, hm => by
    simp only [List.length_nil, List.range'_zero, List.map_nil, putAll, Option.some.injEq] at h
    subst h
    exact .inr ⟨fun j hj => absurd hj (by simp), hm⟩
  | i, x :: r, h, m, k, hm => by
    simp only [List.length_cons, List.range'_succ, List.map_cons, putAll, put0] at h
    rcases putAll_new (i := i + 1) (ks := r) h m k hm with ⟨j, h1, h2⟩ | ⟨h1, h2⟩
    · exact .inl ⟨j + 1, by omega, by simpa using h2⟩
    · rw [look_put1] at h2
      split at h2
      · rename_i e
        injection h2 with h2
        exact .inl ⟨0, by omega, by simp [h2]⟩
      · rename_i e
        refine .inr ⟨fun j hj => ?_, h2⟩
        cases j with
        | zero => omega
        | succ j => have := h1 j (by simp at hj; omega); omega

theorem lookAll_append {M : Mem} : ∀ {l m : List Nat} {ks : List Blk}, lookAll M (l ++ m) = some ks → lookAll M l = some (ks.take l.length) ∧ lookAll M m = some (ks.drop l.length)
  | [], m, ks, h => ⟨by simp [lookAll], by simpa using h⟩
  | b :: l, m, ks, h => by
    simp only [List.cons_append, lookAll] at h ⊢
    cases hb : look b M with
    | none => simp [hb] at h
    | some k =>
      simp only [hb] at h ⊢
      cases hr : lookAll M (l ++ m) with
      | none => simp [hr] at h
      | some ks' =>
        simp only [hr, Option.some.injEq] at h
        subst h
        obtain ⟨h1, h2⟩ := lookAll_append hr
        exact ⟨by simp [h1], by simpa using h2⟩

theorem lookZ_look {M : Mem} {b : Nat} : ∀ {ms : List Nat} {ks k1 : List Blk} {k : Blk}, lookAll M ms = some (ks.take ms.length) → lookZ b ms ks = some k → look b M = some k
  | [], ks, _, k, _, h => by cases ks <;> cases h
  | m :: ms, ks, k1, k, h1, h => by
    cases ks with
    | nil => cases h
    | cons x ks =>
      simp only [List.length_cons, List.take_succ_cons, lookAll] at h1
      cases hm : look m M with
      | none => simp [hm] at h1
      | some y =>
        simp only [hm] at h1
        cases hr : lookAll M ms with
        | none => simp [hr] at h1
        | some l =>
          simp only [hr, Option.some.injEq, List.cons.injEq] at h1
          obtain ⟨rfl, rfl⟩ := h1
          simp only [lookZ] at h
          by_cases e : m = b
          · subst e
            simp only [beqT, cond_true, Option.some.injEq] at h
            subst h
            exact hm
          · simp only [beqF e, cond_false] at h
            exact lookZ_look (k1 := k1) hr h

theorem heap_lt {w : World} {g : Nat} {o : Obj} (h : w.heap[g]? = some o) : g < w.heap.size := (Array.getElem?_eq_some_iff.1 h).1

theorem blk_good {M : Mem} {w : World} (hM : MemR E σ M w) {b : Nat} {k : Blk} (h : look b M = some k) : k.good := by
  have hB := hM.blk b _ h
  revert hB
  cases σ b with
  | unset => intro h; exact h.elim
  | nil => intro h; exact h.2
  | «at» L => intro h; exact h.1

/-- A slice of its own, lent. -/
theorem sl_ro {w : World} {M : Mem} (hM : MemR E σ M w) (h0 : E0 = { P := E.P, w0 := w, old := fun g => g < w.heap.size }) {b off len n : Nat} {cap : Option Nat} {k' : IntKind} {xs : List Int} {V : Value}
    (hblk : look b M = some (.ints k' n xs)) (hgood : off + len ≤ n) (hV : ScR E σ (.sl b off len 1 cap) V) : RoR E0 k' (part1 xs n off len) V := by
  have hB := hM.blk b _ hblk
  have hg0 : xs.length = n := blk_good hM hblk
  rw [part1_eq hg0]
  subst h0
  rcases hV with ⟨q1, _, A, rfl⟩ | ⟨L, c, hL, rfl, q1, q2, q3⟩
  · subst q1
    exact ⟨A, 0, by simp, by simp, by simp⟩
  · rw [hL] at hB
    obtain ⟨g1, arr, elem, lo, hi, p1, p2, p3, p4, p5, p6⟩ := hB
    simp only [Blk.good] at g1
    have hlen : ((xs.drop off).take len).length = len := by simp; omega
    refine ⟨some ⟨L.g, L.β + off, none⟩, c, by rw [hlen], by rw [hlen]; exact q1, fun _ => ⟨_, rfl, ?_, fun j hj => ?_⟩⟩
    · exact heap_lt p1
    · rw [hlen] at hj
      have hget : xs[off + j]? = some (xs.getD (off + j) 0) := by
        rw [List.getD_eq_getElem?_getD, List.getElem?_eq_getElem (by omega)]; rfl
      obtain ⟨v, e3, e4⟩ := p6 (off + j) (.i k' (xs.getD (off + j) 0)) (by show (xs[off + j]?).map _ = _; rw [hget]; rfl)
      simp only [ScR] at e4
      subst e4
      have : ((xs.drop off).take len).getD j 0 = xs.getD (off + j) 0 := by
        simp [List.getD_eq_getElem?_getD, List.getElem?_take, List.getElem?_drop, hj]
      rw [this, addr_add]
      show w.cell? _ = _
      have hlt : L.β + off + j < L.sz := by have := p3; simp only [Blk.len] at this; omega
      have := p5.1 (L.β + off + j) hlt
      simp [World.cell?, p1, this]
      rw [Nat.add_assoc]
      exact e3

theorem old_lt {w : World} {M : Mem} (hM : MemR E σ M w) {g : Nat} (hg : E.old g) : g < w.heap.size := by
  have := hM.olds _ hg
  have := hM.size
  omega

theorem ro_ro {w : World} {M : Mem} (hM : MemR E σ M w) (h0 : E0 = { P := E.P, w0 := w, old := fun g => g < w.heap.size }) {k : IntKind} {xs : List Int} {V : Value} (h : RoR E k xs V) : RoR E0 k xs V := by
  obtain ⟨A, c, q1, q2, q3⟩ := h
  refine ⟨A, c, q1, q2, fun hpos => ?_⟩
  obtain ⟨ad, r1, r2, r3⟩ := q3 hpos
  subst h0
  refine ⟨ad, r1, old_lt hM r2, fun j hj => ?_⟩
  show w.cell? _ = _
  rw [hM.oldCell (by rw [add_block]; exact r2)]
  exact r3 j hj

theorem rowOf_R {w : World} {M : Mem} (hM : MemR E σ M w) (h0 : E0 = { P := E.P, w0 := w, old := fun g => g < w.heap.size }) {ms : List Nat} {ks : List Blk} (hk : lookAll M ms = some (ks.take ms.length)) {s : Sc} {C : Prop} {xs : List Int} {V : Value}
    (h : rowOf ms ks s = some (C, xs)) (hC : C) (hV : ScR E σ s V) : RoR E0 .u8 xs V := by
  unfold rowOf at h
  split at h
  · simp only [Option.some.injEq, Prod.mk.injEq] at h
    obtain ⟨_, rfl⟩ := h
    exact ro_ro hM h0 hV
  · simp only [Option.some.injEq, Prod.mk.injEq] at h
    obtain ⟨_, rfl⟩ := h
    have h4 : V = .slice none 0 0 := hV
    exact ⟨none, 0, h4, by simp, by simp⟩
  · split at h
    · rename_i hz
      simp only [Option.some.injEq, Prod.mk.injEq] at h
      obtain ⟨rfl, rfl⟩ := h
      exact sl_ro hM h0 (lookZ_look (k1 := ks) hk hz) hC hV
    · rename_i hz
      simp only [Option.some.injEq, Prod.mk.injEq] at h
      obtain ⟨rfl, rfl⟩ := h
      rcases hV with ⟨q1, _, A, rfl⟩ | ⟨L, c, hL, rfl, q1, q2, q3⟩
      · exact ⟨A, 0, by simp, by simp, by simp⟩
      · subst hC
        exact ⟨_, c, rfl, by simp, by simp⟩
    · cases h
  · cases h

theorem rowsOf_R {w : World} {M : Mem} (hM : MemR E σ M w) (h0 : E0 = { P := E.P, w0 := w, old := fun g => g < w.heap.size }) {ms : List Nat} {ks : List Blk} (hk : lookAll M ms = some (ks.take ms.length)) : ∀ {l : List Sc} {C : Prop} {xss : List (List Int)},
    rowsOf ms ks l = some (C, xss) → C → xss.length = l.length ∧ ∀ j s, l[j]? = some s → ∀ V, ScR E σ s V → RoR E0 .u8 (xss.getD j []) V
  | [], C, xss, h, hC => by
    simp only [rowsOf, Option.some.injEq, Prod.mk.injEq] at h
    obtain ⟨_, rfl⟩ := h
    exact ⟨rfl, fun j s hs => by simp at hs⟩
  | s :: r, C, xss, h, hC => by
    simp only [rowsOf] at h
    split at h
    · rename_i C1 xs C2 xss' h1 h2
      simp only [Option.some.injEq, Prod.mk.injEq] at h
      obtain ⟨rfl, rfl⟩ := h
      obtain ⟨i1, i2⟩ := rowsOf_R hM h0 hk h2 hC.2
      refine ⟨by simp [i1], fun j s' hs V hV => ?_⟩
      cases j with
      | zero =>
        simp only [List.getElem?_cons_zero, Option.some.injEq] at hs
        subst hs
        simpa using rowOf_R hM h0 hk h1 hC.1 hV
      | succ j => simpa using i2 j s' (by simpa using hs) V hV
    · cases h

theorem lend_R {w : World} {M : Mem} (hM : MemR E σ M w) (h0 : E0 = { P := E.P, w0 := w, old := fun g => g < w.heap.size }) : ∀ {ps : List Pass} {args vs : List AV} {ks : List Blk} {m : List Value} {C : Prop}, lookAll M (lendRd nm ps args) = some ks → lendAll nm ps args ks = some (C, vs) → C → All2 (AVR E σ) args m → All2 (AVR E0 fun _ => .unset) vs m := by
  intro ps
  induction ps with
  | nil =>
    intro args vs ks m C h1 h2 hC h3
    cases args with
    | nil =>
      simp only [lendAll, Option.some.injEq, Prod.mk.injEq] at h2
      obtain ⟨_, rfl⟩ := h2
      cases m with
      | nil => trivial
      | cons _ _ => exact h3.elim
    | cons _ _ => simp [lendAll] at h2
  | cons p ps ih =>
    intro args vs ks m C h1 h2 hC h3
    cases args with
    | nil => cases p <;> simp [lendAll] at h2
    | cons v r =>
      cases m with
      | nil => exact h3.elim
      | cons V m =>
        have hsz : ∀ g o, w.heap[g]? = some o → g < w.heap.size := fun g o h => (Array.getElem?_eq_some_iff.1 h).1
        cases p with
        | val =>
          cases v with
          | sc s =>
            simp only [lendRd] at h1
            simp only [lendAll] at h2
            split at h2
            · rename_i C' vs' e1 e2
              simp only [Option.some.injEq, Prod.mk.injEq] at h2
              obtain ⟨rfl, rfl⟩ := h2
              refine ⟨?_, ih h1 e2 hC h3.2⟩
              have h4 := h3.1
              cases s <;> first | exact h4 | exact Bool.noConfusion (show false = true from e1)
            · cases h2
          | ints k n xs =>
            simp only [lendRd] at h1
            simp only [lendAll] at h2
            split at h2
            · rename_i C' vs' e2
              simp only [Option.some.injEq, Prod.mk.injEq] at h2
              obtain ⟨rfl, rfl⟩ := h2
              exact ⟨h3.1, ih h1 e2 hC h3.2⟩
            · cases h2
          | agg l => simp [lendAll] at h2
          | tup l => simp [lendAll] at h2
        | ro k =>
          cases v with
          | ints _ _ _ => simp [lendAll] at h2
          | agg l => simp [lendAll] at h2
          | tup l => simp [lendAll] at h2
          | sc s =>
            cases s with
            | sl b off len es cap =>
              simp only [lendRd, lookAll] at h1
              split at h1
              · cases h1
              · rename_i blk hblk
                split at h1
                · cases h1
                · rename_i ks' hks
                  simp only [Option.some.injEq] at h1
                  subst h1
                  simp only [lendAll] at h2
                  split at h2
                  · rename_i k' n xs
                    split at h2
                    · rename_i C' vs' e2
                      split at h2
                      · rename_i hk
                        subst hk
                        cases hes : Nat.beq es 1
                        · simp [hes] at h2
                        · simp only [hes, cond_true, Option.some.injEq, Prod.mk.injEq] at h2
                          obtain ⟨rfl, rfl⟩ := h2
                          have hes1 := Nat.eq_of_beq_eq_true hes
                          subst hes1
                          refine ⟨?_, ih hks e2 hC.2 h3.2⟩
                          exact sl_ro hM h0 hblk hC.1 h3.1
                      · cases h2
                    · cases h2
                  · cases h2
            | nils =>
              simp only [lendRd] at h1
              simp only [lendAll] at h2
              split at h2
              · rename_i C' vs' e2
                simp only [Option.some.injEq, Prod.mk.injEq] at h2
                obtain ⟨rfl, rfl⟩ := h2
                refine ⟨?_, ih h1 e2 hC h3.2⟩
                have h4 : V = .slice none 0 0 := h3.1
                exact ⟨none, 0, h4, by simp, by simp⟩
              · cases h2
            | ro k' xs =>
              simp only [lendRd] at h1
              simp only [lendAll] at h2
              split at h2
              · rename_i C' vs' e2
                split at h2
                · rename_i hk
                  subst hk
                  simp only [Option.some.injEq, Prod.mk.injEq] at h2
                  obtain ⟨rfl, rfl⟩ := h2
                  refine ⟨?_, ih h1 e2 hC h3.2⟩
                  obtain ⟨A, c, q1, q2, q3⟩ := h3.1
                  refine ⟨A, c, q1, q2, fun hpos => ?_⟩
                  obtain ⟨ad, r1, r2, r3⟩ := q3 hpos
                  subst h0
                  refine ⟨ad, r1, ?_, fun j hj => ?_⟩
                  · have := hM.olds _ r2
                    have := hM.size
                    show ad.block < w.heap.size
                    omega
                  · show w.cell? _ = _
                    rw [hM.oldCell (by rw [add_block]; exact r2)]
                    exact r3 j hj
                · cases h2
              · cases h2
            | _ => simp [lendAll] at h2
        | rob ft =>
          cases v with
          | ints _ _ _ => simp [lendAll] at h2
          | agg l => simp [lendAll] at h2
          | tup l => simp [lendAll] at h2
          | sc s =>
            cases s with
            | sl b off len es cap =>
              simp only [lendRd, lookAll] at h1
              split at h1
              · cases h1
              · rename_i blk hblk
                split at h1
                · cases h1
                · rename_i ks' hks
                  simp only [Option.some.injEq] at h1
                  subst h1
                  obtain ⟨hk1, hk2⟩ := lookAll_append hks
                  simp only [lendAll] at h2
                  split at h2
                  · rename_i l
                    split at h2
                    · rename_i C0 xss C' vs' e1 e2
                      cases hes : Nat.beq es 1
                      · simp [hes] at h2
                      · simp only [hes, cond_true, Option.some.injEq, Prod.mk.injEq] at h2
                        obtain ⟨rfl, rfl⟩ := h2
                        have hes1 := Nat.eq_of_beq_eq_true hes
                        subst hes1
                        refine ⟨?_, ih hk2 e2 hC.2 h3.2⟩
                        obtain ⟨hle, hC0⟩ := hC.1
                        obtain ⟨i1, i2⟩ := rowsOf_R hM h0 hk1 e1 hC0
                        have hll : ((l.drop off).take len).length = len := by simp; omega
                        rw [hll] at i1
                        have hB := hM.blk b _ hblk
                        rcases h3.1 with ⟨q1, _, A, rfl⟩ | ⟨L, c, hL, rfl, q1, q2, q3⟩
                        · exact ⟨A, 0, by simp [i1, q1], by simp [i1, q1], by simp [i1, q1]⟩
                        · rw [hL] at hB
                          obtain ⟨g1, arr, elem, lo, hi, p1, p2, p3, p4, p5, p6⟩ := hB
                          subst h0
                          refine ⟨some ⟨L.g, L.β + off, none⟩, c, by rw [i1], by rw [i1]; exact q1, fun _ => ⟨_, rfl, heap_lt p1, fun j hj => ?_⟩⟩
                          rw [i1] at hj
                          have hget : l[off + j]? = some (l[off + j]'(by omega)) := List.getElem?_eq_getElem _
                          obtain ⟨v, e3, e4⟩ := p6 (off + j) _ hget
                          refine ⟨v, ?_, i2 j (l[off + j]'(by omega)) (by simp [List.getElem?_take, List.getElem?_drop, hj, hget]) v e4⟩
                          rw [addr_add]
                          show w.cell? _ = _
                          have hlt : L.β + off + j < L.sz := by have := p3; simp only [Blk.len] at this; omega
                          have := p5.1 (L.β + off + j) hlt
                          simp [World.cell?, p1, this]
                          rw [Nat.add_assoc]
                          exact e3
                    · cases h2
                  · cases h2
            | rob xs =>
              simp only [lendRd] at h1
              simp only [lendAll] at h2
              split at h2
              · rename_i C' vs' e2
                simp only [Option.some.injEq, Prod.mk.injEq] at h2
                obtain ⟨rfl, rfl⟩ := h2
                refine ⟨?_, ih h1 e2 hC h3.2⟩
                obtain ⟨A, c, q1, q2, q3⟩ := h3.1
                refine ⟨A, c, q1, q2, fun hpos => ?_⟩
                obtain ⟨ad, r1, r2, r3⟩ := q3 hpos
                subst h0
                have hlt : ∀ g, E.old g → g < w.heap.size := fun g hg => by
                  have := hM.olds _ hg
                  have := hM.size
                  omega
                have hcell : ∀ (a : Addr), E.old a.block → w.cell? a = E.w0.cell? a := fun a ha => hM.oldCell ha
                refine ⟨ad, r1, hlt _ r2, fun j hj => ?_⟩
                obtain ⟨v, s1, A', c', s2, s3, s4⟩ := r3 j hj
                refine ⟨v, ?_, A', c', s2, s3, fun hpos' => ?_⟩
                · show w.cell? _ = _
                  rw [hcell _ (by rw [add_block]; exact r2)]
                  exact s1
                · obtain ⟨ad', t1, t2, t3⟩ := s4 hpos'
                  refine ⟨ad', t1, hlt _ t2, fun i hi => ?_⟩
                  show w.cell? _ = _
                  rw [hcell _ (by rw [add_block]; exact t2)]
                  exact t3 i hi
              · cases h2
            | _ => simp [lendAll] at h2

/-- What is known of a function that looks at nothing but its arguments holds of its calls. -/
theorem sound_of_pure {P : Program} {G : Globs} {f : FuncId} {ps : List Pass} {spec : List AV → Option (Prop × Ret)} (hnb : nb ≤ 16) (hown : ∀ vs C r, spec vs = some (C, r) → r.own nb = true) (h : PureAt P G f spec) : SoundAt P G f (callD ps nb spec) := by
  intro E σ M w args Vs nm A C v M' hP hG hM hargs hn hA hrun hC
  simp only [callD, Option.some.injEq] at hA
  subst hA
  unfold Deed.run at hrun
  simp only at hrun
  split at hrun
  · cases hrun
  · rename_i ks hks
    split at hrun
    · cases hrun
    · rename_i C1 v1 cs hgo
      split at hrun
      · cases hrun
      · rename_i M1 hput
        simp only [Option.some.injEq, Prod.mk.injEq] at hrun
        obtain ⟨rfl, rfl, rfl⟩ := hrun
        split at hgo
        · rename_i C2 vs hl
          split at hgo
          · rename_i C3 r hr
            simp only [Option.some.injEq, Prod.mk.injEq] at hgo
            obtain ⟨rfl, rfl, rfl⟩ := hgo
            let E0 : Env := { P := E.P, w0 := w, old := fun g => g < w.heap.size }
            have hargs0 := lend_R (E0 := E0) hM rfl hks hl hC.1 hargs
            have hM0 : MemR E0 (fun _ => .unset) [] w :=
              { blk := fun b k hb => by cases hb
                inj := fun b c x y L L' hb => by cases hb
                old := fun _ _ => rfl
                size := Nat.le_refl _
                olds := fun _ h => h
                os := rfl
                tape := rfl
                output := rfl }
            have hG0 : GlobsOk E0 G := by
              intro g k xs hg
              obtain ⟨q1, q2⟩ := hG g k xs hg
              refine ⟨?_, fun j hj => ?_⟩
              · have q3 : g < E.w0.heap.size := hM.olds _ q1
                have := hM.size
                show g < w.heap.size
                omega
              · show w.cell? _ = _
                rw [hM.oldCell (by rw [add_block]; exact q1)]
                exact q2 j hj
            have hO := hown vs C3 r hr
            simp only [Ret.own, Bool.and_eq_true] at hO
            obtain ⟨⟨o1, o2⟩, o3⟩ := hO
            have o1 := Nat.eq_of_beq_eq_true o1
            refine (h E0 w vs Vs C3 r hP hG0 hM0 hargs0 hr hC.2).mono ?_
            rintro V w' ⟨σ', r1, r2⟩
            have hold : ∀ g, E.old g → E0.old g := fun g hg => by
              have := hM.olds _ hg
              have := hM.size
              show g < w.heap.size
              omega
            have keep : ∀ m, ¬ (nm ≤ m ∧ m < nm + nb) → sigUp σ σ' nm nb m = σ m := fun m hm => by unfold sigUp; rw [if_neg hm]
            have hx : Ext σ (sigUp σ σ' nm nb) := by
              intro m hm
              refine keep m fun hc => hm (hn m hc.1 (by omega))
            have hheap : ∀ g, g < w.heap.size → w'.heap[g]? = w.heap[g]? := fun g hg => r2.old g hg
            have hnames : ∀ m k, look m M1 = some k → (∃ j k0, m = nm + j ∧ j < nb ∧ r.bs[j]? = some k0 ∧ k = k0.up nm) ∨ (look m M = some k ∧ ¬ (nm ≤ m ∧ m < nm + nb)) := by
              intro m k hm
              have hput' : putAll ((List.range' 0 (r.bs.map (Blk.up nm)).length).map (nm + ·)) ((r.bs.map (Blk.up nm)).map some) M = some M1 := by
                rw [List.map_map, List.length_map]
                rw [← o1, List.range_eq_range'] at hput
                exact hput
              rcases putAll_new hput' m k hm with ⟨j, e1, e2⟩ | ⟨e1, e2⟩
              · simp only [List.getElem?_map, Option.map_eq_some_iff] at e2
                obtain ⟨k0, e3, e4⟩ := e2
                have : j < r.bs.length := by
                  rw [List.getElem?_eq_some_iff] at e3
                  exact e3.1
                exact .inl ⟨j, k0, by omega, by omega, e3, e4.symm⟩
              · refine .inr ⟨e2, fun hc => ?_⟩
                have := e1 (m - nm) (by simp; omega)
                omega
            have hatOld : ∀ m k L, look m M = some k → σ m = .at L → L.g < w.heap.size := by
              intro m k L hm hL
              have hB := hM.blk m k hm
              rw [hL] at hB
              obtain ⟨_, arr, elem, lo, hi, p1, _⟩ := hB
              exact (Array.getElem?_eq_some_iff.1 p1).1
            have hatNew : ∀ j k0 L, r.bs[j]? = some k0 → σ' j = .at L → ¬ L.g < w.heap.size := by
              intro j k0 L hj hL
              have hB := r2.blk j k0 (by have := zipN_get (i := 0) hj; simpa using this)
              rw [hL] at hB
              obtain ⟨_, arr, elem, lo, hi, p1, p2, p3, p4, _⟩ := hB
              exact p4
            refine ⟨sigUp σ σ' nm nb, hx, fun m hm => keep m (by omega), AV.up_R o2 r1, ?_⟩
            refine { blk := ?_, inj := ?_, old := ?_, size := ?_, olds := hM.olds, os := ?_, tape := ?_, output := ?_ }
            · intro m k hm
              rcases hnames m k hm with ⟨j, k0, rfl, hj, e1, rfl⟩ | ⟨e1, e2⟩
              · rw [sigUp_new hj]
                have hB := r2.blk j k0 (by have := zipN_get (i := 0) e1; simpa using this)
                rw [List.all_eq_true] at o3
                exact Blk.up_R hold (o3 k0 (List.mem_of_getElem? e1)) hB
              · rw [keep m e2]
                have hB := hM.blk m k e1
                revert hB
                cases hL : σ m with
                | unset => intro hB; exact hB
                | nil => intro hB; exact hB
                | «at» L =>
                  rintro ⟨g1, arr, elem, lo, hi, p1, p2, p3, p4, p5, p6⟩
                  refine ⟨g1, arr, elem, lo, hi, ?_, p2, p3, p4, p5, fun j s hs => ?_⟩
                  · rw [hheap _ (Array.getElem?_eq_some_iff.1 p1).1]; exact p1
                  · obtain ⟨v, q1, q2⟩ := p6 j s hs
                    exact ⟨v, q1, q2.ext hx⟩
            · intro b c x y L L' hb hc hL hL' hg
              rcases hnames b x hb with ⟨j, k0, rfl, hj, e1, rfl⟩ | ⟨e1, e2⟩
              · rw [sigUp_new hj] at hL
                rcases hnames c y hc with ⟨i, k1, rfl, hi, e3, rfl⟩ | ⟨e3, e4⟩
                · rw [sigUp_new hi] at hL'
                  have := r2.inj j i k0 k1 L L' (by have := zipN_get (i := 0) e1; simpa using this) (by have := zipN_get (i := 0) e3; simpa using this) hL hL' hg
                  rw [this]
                · rw [keep c e4] at hL'
                  have h1 := hatNew j k0 L e1 hL
                  have h2 := hatOld c y L' e3 hL'
                  omega
              · rw [keep b e2] at hL
                rcases hnames c y hc with ⟨i, k1, rfl, hi, e3, rfl⟩ | ⟨e3, e4⟩
                · rw [sigUp_new hi] at hL'
                  have h1 := hatNew i k1 L' e3 hL'
                  have h2 := hatOld b x L e1 hL
                  omega
                · rw [keep c e4] at hL'
                  exact hM.inj b c x y L L' e1 e3 hL hL' hg
            · intro g hg
              rw [hheap g (hold g hg)]
              exact hM.old g hg
            · have := r2.size
              have h2 : E0.w0.heap.size = w.heap.size := rfl
              have := hM.size
              omega
            · rw [r2.os]; exact hM.os
            · rw [r2.tape]; exact hM.tape
            · rw [r2.output]; exact hM.output
          · cases hgo
        · cases hgo

end
end Go.Vm
