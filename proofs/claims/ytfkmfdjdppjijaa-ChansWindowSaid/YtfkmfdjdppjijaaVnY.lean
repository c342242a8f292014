/- More ways to know less, or otherwise: slices that are none, parts of blocks under new names, blocks that are only read from now on. -/
import Derived.Test.YtfkmfdjdppjijaaVnX
set_option linter.unusedVariables false
set_option linter.unusedSimpArgs false
namespace Go.Vm
open Go

section
variable {E : Env} {σ : Sig} {M : Mem} {w : World}

/-- From a place on. -/
def shiftPl (o : Nat) : Pl → Pl
  | .at L => .at { L with β := L.β + o }
  | x => x

theorem BlkR.shift {k : Blk} {p : Pl} (h : BlkR E σ w k p) {o : Nat} (ho : o ≤ k.len) : BlkR E σ w (k.from o) (shiftPl o p) := by
  cases p with
  | unset => exact h
  | nil =>
    obtain ⟨f1, f2, _⟩ := Blk.from_get h.2 o
    exact ⟨by rw [f2]; have := h.1; omega, f1⟩
  | «at» L =>
    obtain ⟨g1, arr, elem, lo, hi, p1, p2, p3, p4, p5, p6⟩ := h
    obtain ⟨f1, f2, f3⟩ := Blk.from_get g1 o
    refine ⟨f1, arr, elem, lo, hi, p1, p2, by rw [f2]; show L.β + o + _ ≤ L.sz; omega, p4, p5, fun j s hs => ?_⟩
    rw [f3] at hs
    obtain ⟨v, q1, q2⟩ := p6 _ _ hs
    exact ⟨v, by show arr[L.β + o + j]? = _; rw [Nat.add_assoc]; exact q1, q2⟩

/-- One name more. -/
theorem MemR.add {b : Nat} {p : Pl} {k : Blk} {M' : Mem} (h : MemR E σ M w) (hn : σ b = .unset) (hsub : ∀ c x, look c M' = some x → look c M = some x) (hB : BlkR E σ w k p)
    (hinj : ∀ L, p = .at L → ∀ c x L', look c M' = some x → σ c = .at L' → L'.g ≠ L.g) : MemR E (upd σ b p) (put1 b k M') w := by
  have hx := ext_upd (σ := σ) p hn
  have hnot : ∀ c x, look c M' = some x → c ≠ b := by
    intro c x hc e
    subst e
    have := h.blk c x (hsub c x hc)
    rw [hn] at this
    exact this
  refine { blk := fun c x hc => ?_, inj := fun c d x y L L' hc hd hL hL' hg => ?_, old := h.old, size := h.size, olds := h.olds, os := h.os, tape := h.tape, output := h.output }
  · rw [look_put1] at hc
    by_cases e : c = b
    · rw [if_pos e] at hc
      injection hc with hc
      subst hc e
      rw [upd_same]
      exact hB.ext hx
    · rw [if_neg e] at hc
      rw [upd_other _ _ e]
      exact (h.blk c x (hsub c x hc)).ext hx
  · rw [look_put1] at hc hd
    by_cases e : c = b <;> by_cases e' : d = b
    · omega
    · exfalso
      rw [if_neg e'] at hd
      rw [e, upd_same] at hL
      rw [upd_other _ _ e'] at hL'
      exact hinj L hL d y L' hd hL' hg.symm
    · exfalso
      rw [if_neg e] at hc
      rw [e', upd_same] at hL'
      rw [upd_other _ _ e] at hL
      exact hinj L' hL' c x L hc hL hg
    · rw [if_neg e] at hc
      rw [if_neg e'] at hd
      rw [upd_other _ _ e] at hL
      rw [upd_other _ _ e'] at hL'
      exact h.inj c d x y L L' (hsub c x hc) (hsub d y hd) hL hL' hg

/-- The block said otherwise. -/
theorem MemR.reblk {b : Nat} {k k' : Blk} (h : MemR E σ M w) (hb : look b M = some k) (hk : BlkR E σ w k (σ b) → BlkR E σ w k' (σ b)) : MemR E σ (put1 b k' M) w := by
  have less : ∀ c x, look c (put1 b k' M) = some x → (c = b ∧ x = k') ∨ look c M = some x := by
    intro c x hc
    rw [look_put1] at hc
    split at hc
    · rename_i e; exact .inl ⟨e, by cases hc; rfl⟩
    · exact .inr hc
  have f : ∀ c x, look c (put1 b k' M) = some x → ∃ x', look c M = some x' := by
    intro c x hc
    rcases less c x hc with ⟨rfl, rfl⟩ | hc
    · exact ⟨_, hb⟩
    · exact ⟨_, hc⟩
  exact { blk := fun c x hc => by
            rcases less c x hc with ⟨rfl, rfl⟩ | hc
            · exact hk (h.blk _ _ hb)
            · exact h.blk c x hc
          inj := fun c d x y L L' hc hd => by
            obtain ⟨x', hx⟩ := f c x hc
            obtain ⟨y', hy⟩ := f d y hd
            exact h.inj c d x' y' L L' hx hy
          old := h.old, size := h.size, olds := h.olds, os := h.os, tape := h.tape, output := h.output }

theorem BlkR.recell {l : List Sc} {j : Nat} {s s' : Sc} {p : Pl} (h : BlkR E σ w (.cells l) p) (hj : l[j]? = some s) (hs : ∀ V, ScR E σ s V → ScR E σ s' V) : BlkR E σ w (.cells (l.set j s')) p := by
  cases p with
  | unset => exact h
  | nil => exact ⟨by simpa [Blk.len] using h.1, trivial⟩
  | «at» L =>
    obtain ⟨g1, arr, elem, lo, hi, p1, p2, p3, p4, p5, p6⟩ := h
    refine ⟨trivial, arr, elem, lo, hi, p1, p2, by simpa [Blk.len] using p3, p4, p5, fun i x hx => ?_⟩
    simp only [Blk.get?] at hx
    by_cases e : i = j
    · subst e
      rw [List.getElem?_set_self (by rw [List.getElem?_eq_some_iff] at hj; exact hj.1)] at hx
      cases hx
      obtain ⟨v, q1, q2⟩ := p6 i _ hj
      exact ⟨v, q1, hs v q2⟩
    · rw [List.getElem?_set_ne (Ne.symm e)] at hx
      exact p6 i x hx

theorem BlkR.toVec {l : List Sc} {v : VK} {xs : List v.T} (h : v.unL l = some xs) {p : Pl} (hB : BlkR E σ w (.cells l) p) : BlkR E σ w (.vec v xs) p := by
  have hl := VK.unL_len h
  cases p with
  | unset => exact hB
  | nil => exact ⟨by have := hB.1; simp only [Blk.len] at this ⊢; omega, trivial⟩
  | «at» L =>
    obtain ⟨g1, arr, elem, lo, hi, p1, p2, p3, p4, p5, p6⟩ := hB
    refine ⟨trivial, arr, elem, lo, hi, p1, p2, by simp only [Blk.len] at p3 ⊢; omega, p4, p5, fun i x hx => ?_⟩
    simp only [Blk.get?, Option.map_eq_some_iff] at hx
    obtain ⟨y, hy, rfl⟩ := hx
    obtain ⟨s, h1, h2⟩ := VK.unL_get h hy
    obtain ⟨u, h3, h4⟩ := p6 i s (by simpa [Blk.get?] using h1)
    exact ⟨u, h3, VK.un_R h2 h4⟩
end

variable {fr : Fr} {M : Mem} {U U' : Nat}

/-- One temp said otherwise. -/
theorem FrR.put {E : Env} {σ : Sig} {a : Act} {t : Nat} {v v' : AV} (h : FrR E σ fr a) (ht : look t fr = some v) (hv : ∀ V, AVR E σ v V → AVR E σ v' V) : FrR E σ (put1 t v' fr) a := by
  refine ⟨fun t' u hu => ?_, h.defers⟩
  rw [look_put1] at hu
  split at hu
  · rename_i e
    subst e
    injection hu with hu
    subst hu
    obtain ⟨V, q1, q2⟩ := h.val _ _ ht
    exact ⟨V, q1, hv V q2⟩
  · exact h.val _ _ hu

/-- A list that is none is one of nothing. -/
theorem Sub.tmp {t : Nat} {v v' : AV} (ht : look t fr = some v) (h : ∀ E σ V, AVR E σ v V → AVR E σ v' V) : Sub U (fr, M) U (put1 t v' fr, M) := by
  refine Sub.of1 ?_
  rintro E κ n a w ⟨σ, h1, h2⟩
  exact ⟨σ, { toFrR := h1.toFrR.put ht (h _ _), tmps := h1.tmps, toMemR := h1.toMemR }, h2⟩
theorem Sub.nilRos (t : Nat) (ht : look t fr = some (.sc .nils)) : Sub U (fr, M) U (put1 t (.sc (.ros [])) fr, M) :=
  Sub.tmp ht fun _ _ _ h => ⟨none, 0, h, Nat.le_refl _, fun h => absurd h (Nat.lt_irrefl _)⟩
theorem Sub.nilRob (t : Nat) (ht : look t fr = some (.sc .nils)) : Sub U (fr, M) U (put1 t (.sc (.rob [])) fr, M) :=
  Sub.tmp ht fun _ _ _ h => ⟨none, 0, h, Nat.le_refl _, fun h => absurd h (Nat.lt_irrefl _)⟩

theorem Sub.reblk {b : Nat} {k k' : Blk} (hb : look b M = some k) (hk : ∀ E σ w p, BlkR E σ w k p → BlkR E σ w k' p) : Sub U (fr, M) U (fr, put1 b k' M) := by
  refine Sub.of1 ?_
  rintro E κ n a w ⟨σ, h1, h2⟩
  exact ⟨σ, { toFrR := h1.toFrR, tmps := h1.tmps, toMemR := h1.toMemR.reblk hb (hk _ _ _ _) }, h2⟩

/-- Cells of one sort. -/
theorem Sub.toVec (b : Nat) (v : VK) {l : List Sc} (xs : List v.T) (hb : look b M = some (.cells l)) (h : v.unL l = some xs) : Sub U (fr, M) U (fr, put1 b (.vec v xs) M) :=
  Sub.reblk hb fun _ _ _ _ hB => hB.toVec h

theorem keep_upd {κ σ : Sig} {b : Nat} {p : Pl} (h : Keep κ σ) (hb : 16 ≤ b) : Keep κ (upd σ b p) := fun j hj => by
  rw [upd_other _ _ (by omega)]
  exact h j hj
theorem unset_upd {σ : Sig} {b : Nat} {p : Pl} (h : ∀ m, U ≤ m → σ m = .unset) (hb : U ≤ b) (hb' : b < U') : ∀ m, U' ≤ m → upd σ b p m = .unset := fun m hm => by
  rw [upd_other _ _ (by omega)]
  exact h m (by omega)

/-- A new name b' for what a slice holds; k: its block, p: where it lies. -/
theorem Sub.openT (t b : Nat) (es : Nat) (k : Blk) (cap : Option Nat) (hcap : cap = none ∨ cap = some 0) (hk : k.len = 0 ∧ k.good) (hb : (Nat.ble U b && Nat.blt b U') = true) (ht : look t fr = some (.sc .nils)) (hM : look b M = none) :
    Sub U (fr, M) U' (put1 t (.sc (.sl b 0 0 es cap)) fr, put1 b k M) := by
  rw [Bool.and_eq_true] at hb
  have hb1 := Nat.le_of_ble_eq_true hb.1
  have hb2 := Nat.le_of_ble_eq_true (show Nat.ble (b + 1) U' = true from hb.2)
  refine Sub.of1 ?_
  rintro E κ n a w ⟨σ, h1, h2, h3, h4⟩
  have hn := h2 b hb1
  refine ⟨upd σ b .nil, ?_, unset_upd h2 hb1 (by omega), keep_upd h3 (by omega), by omega⟩
  exact { toFrR := (h1.toFrR.ext (ext_upd .nil hn)).put ht fun V hV => .inl ⟨rfl, hcap, none, hV⟩
          tmps := h1.tmps
          toMemR := h1.toMemR.add hn (fun _ _ h => h) hk fun L hL => by cases hL }

theorem Sub.openC (c j b : Nat) (es : Nat) (k : Blk) {l : List Sc} (hk : k.len = 0 ∧ k.good) (hb : (Nat.ble U b && Nat.blt b U') = true) (hc : look c M = some (.cells l)) (hj : l[j]? = some .nils) :
    Sub U (fr, M) U' (fr, put1 b k (put1 c (.cells (l.set j (.sl b 0 0 es none))) M)) := by
  rw [Bool.and_eq_true] at hb
  have hb1 := Nat.le_of_ble_eq_true hb.1
  have hb2 := Nat.le_of_ble_eq_true (show Nat.ble (b + 1) U' = true from hb.2)
  refine Sub.of1 ?_
  rintro E κ n a w ⟨σ, h1, h2, h3, h4⟩
  have hn := h2 b hb1
  refine ⟨upd σ b .nil, ?_, unset_upd h2 hb1 (by omega), keep_upd h3 (by omega), by omega⟩
  have h0 : MemR E σ (put1 c (.cells (l.set j (.sl b 0 0 es none))) M) w := h1.toMemR.reblk hc fun hB => hB.recell hj fun V hV => .inl ⟨rfl, .inl rfl, none, hV⟩
  exact { toFrR := h1.toFrR.ext (ext_upd .nil hn)
          tmps := h1.tmps
          toMemR := h0.add hn (fun _ _ h => h) hk fun L hL => by cases hL }

theorem sl_shift {E : Env} {σ : Sig} {b b' off len es : Nat} {cap : Option Nat} {V : Value} (hne : σ b' = .unset) (h : ScR E σ (.sl b off len es cap) V) : ScR E (upd σ b' (shiftPl off (σ b))) (.sl b' 0 len es cap) V := by
  rcases h with ⟨q1, q2, A, rfl⟩ | ⟨L, c, q1, rfl, q2, q3, q4⟩
  · exact .inl ⟨q1, q2, A, rfl⟩
  · refine .inr ⟨{ L with β := L.β + off }, c, by rw [upd_same, q1]; rfl, rfl, q2, q3, ?_⟩
    cases cap with
    | none => exact q4
    | some n => exact q4

/-- What a slice holds, from its head on. -/
theorem Sub.rebaseT (t b b' : Nat) {off len es : Nat} {cap : Option Nat} {k : Blk} (hle : off ≤ k.len) (hb : (Nat.ble U b' && Nat.blt b' U') = true) (ht : look t fr = some (.sc (.sl b off len es cap))) (hM : look b M = some k) :
    Sub U (fr, M) U' (put1 t (.sc (.sl b' 0 len es cap)) fr, put1 b' (k.from off) (drop1 b M)) := by
  rw [Bool.and_eq_true] at hb
  have hb1 := Nat.le_of_ble_eq_true hb.1
  have hb2 := Nat.le_of_ble_eq_true (show Nat.ble (b' + 1) U' = true from hb.2)
  refine Sub.of1 ?_
  rintro E κ n a w ⟨σ, h1, h2, h3, h4⟩
  have hn := h2 b' hb1
  refine ⟨upd σ b' (shiftPl off (σ b)), ?_, unset_upd h2 hb1 (by omega), keep_upd h3 (by omega), by omega⟩
  have hx := ext_upd (σ := σ) (shiftPl off (σ b)) hn
  have less : ∀ c x, look c (drop1 b M) = some x → c ≠ b ∧ look c M = some x := fun c x hc => by
    rw [look_drop1] at hc
    split at hc
    · cases hc
    · rename_i e; exact ⟨e, hc⟩
  refine { toFrR := ⟨fun t' u hu => ?_, h1.defers⟩, tmps := h1.tmps, toMemR := h1.toMemR.add hn (fun c x h => (less c x h).2) ((h1.toMemR.blk b k hM).shift hle) ?_ }
  · rw [look_put1] at hu
    split at hu
    · rename_i e
      subst e
      injection hu with hu
      subst hu
      obtain ⟨V, q1, q2⟩ := h1.val _ _ ht
      exact ⟨V, q1, sl_shift (E := E) hn q2⟩
    · obtain ⟨V, q1, q2⟩ := h1.val _ _ hu
      exact ⟨V, q1, q2.ext hx⟩
  · intro L hL c x L' hc hL' hg
    cases hb : σ b with
    | unset => rw [hb] at hL; cases hL
    | nil => rw [hb] at hL; cases hL
    | «at» L0 =>
      rw [hb] at hL
      injection hL with hL
      subst hL
      exact (less c x hc).1 (h1.inj c b x k L' L0 (less c x hc).2 hM hL' hb hg)

theorem Sub.rebaseC (c j b b' : Nat) {off len es : Nat} {cap : Option Nat} {k : Blk} {l : List Sc} (hle : off ≤ k.len) (hb : (Nat.ble U b' && Nat.blt b' U' && !(Nat.beq c b)) = true) (hc : look c M = some (.cells l)) (hj : l[j]? = some (.sl b off len es cap)) (hM : look b M = some k) :
    Sub U (fr, M) U' (fr, put1 c (.cells (l.set j (.sl b' 0 len es cap))) (put1 b' (k.from off) (drop1 b M))) := by
  rw [Bool.and_eq_true, Bool.and_eq_true] at hb
  have hb1 := Nat.le_of_ble_eq_true hb.1.1
  have hb2 := Nat.le_of_ble_eq_true (show Nat.ble (b' + 1) U' = true from hb.1.2)
  have hcb : c ≠ b := fun e => by subst e; rw [beqT] at hb; cases hb.2
  refine Sub.of1 ?_
  rintro E κ n a w ⟨σ, h1, h2, h3, h4⟩
  have hn := h2 b' hb1
  refine ⟨upd σ b' (shiftPl off (σ b)), ?_, unset_upd h2 hb1 (by omega), keep_upd h3 (by omega), by omega⟩
  have hx := ext_upd (σ := σ) (shiftPl off (σ b)) hn
  have less : ∀ c x, look c (drop1 b M) = some x → c ≠ b ∧ look c M = some x := fun c x hc => by
    rw [look_drop1] at hc
    split at hc
    · cases hc
    · rename_i e; exact ⟨e, hc⟩
  have h0 : MemR E (upd σ b' (shiftPl off (σ b))) (put1 b' (k.from off) (drop1 b M)) w := by
    refine h1.toMemR.add hn (fun c x h => (less c x h).2) ((h1.toMemR.blk b k hM).shift hle) ?_
    intro L hL c x L' hc hL' hg
    cases hb : σ b with
    | unset => rw [hb] at hL; cases hL
    | nil => rw [hb] at hL; cases hL
    | «at» L0 =>
      rw [hb] at hL
      injection hL with hL
      subst hL
      exact (less c x hc).1 (h1.inj c b x k L' L0 (less c x hc).2 hM hL' hb hg)
  have hcb' : c ≠ b' := fun e => by
    subst e
    have := h1.toMemR.blk c _ hc
    rw [hn] at this
    exact this
  have hc' : look c (put1 b' (k.from off) (drop1 b M)) = some (.cells l) := by
    rw [look_put1, if_neg hcb', look_drop1, if_neg hcb]
    exact hc
  have hcs : upd σ b' (shiftPl off (σ b)) c = σ c := upd_other _ _ hcb'
  refine { toFrR := h1.toFrR.ext hx, tmps := h1.tmps, toMemR := h0.reblk hc' fun hB => ?_ }
  -- the cell's value, of the old names
  have hB0 := h1.toMemR.blk c _ hc
  rw [hcs] at hB ⊢
  cases hp : σ c with
  | unset => rw [hp] at hB0; exact hB0
  | nil => rw [hp] at hB0; exact ⟨by simpa [Blk.len] using hB0.1, trivial⟩
  | «at» L =>
    rw [hp] at hB0
    obtain ⟨g1, arr, elem, lo, hi, p1, p2, p3, p4, p5, p6⟩ := hB0
    refine ⟨trivial, arr, elem, lo, hi, p1, p2, by simpa [Blk.len] using p3, p4, p5, fun i x hx' => ?_⟩
    simp only [Blk.get?] at hx'
    by_cases e : i = j
    · subst e
      rw [List.getElem?_set_self (by rw [List.getElem?_eq_some_iff] at hj; exact hj.1)] at hx'
      cases hx'
      obtain ⟨v, q1, q2⟩ := p6 i _ hj
      exact ⟨v, q1, sl_shift hn q2⟩
    · rw [List.getElem?_set_ne (Ne.symm e)] at hx'
      obtain ⟨v, q1, q2⟩ := p6 i x hx'
      exact ⟨v, q1, q2.ext hx⟩

/-! ### what is only read from now on -/
/-- A slice of a block that no one writes to any more. -/
def Blk.ro : Blk → Nat → Nat → Sc
  | .ints k n xs, off, len => .ro k (part1 xs n off len)
  | .vec .row xs, off, len => .rob (partV xs off len)
  | .vec .str xs, off, len => .ros (partV xs off len)
  | _, _, _ => .nilp
def Blk.roC : Blk → Nat × Nat → Prop
  | .ints _ n _, p => p.1 + p.2 ≤ n
  | .vec .row xs, p => p.1 + p.2 ≤ xs.length
  | .vec .str xs, p => p.1 + p.2 ≤ xs.length
  | _, _ => False
def condL (f : Nat × Nat → Prop) : List (Nat × Nat) → Prop
  | [] => True
  | [p] => f p
  | p :: r => f p ∧ condL f r
theorem condL_mem {f : Nat × Nat → Prop} : ∀ {l : List (Nat × Nat)}, condL f l → ∀ p ∈ l, f p
  | [], _, p, hp => by cases hp
  | [q], h, p, hp => by
    rw [List.mem_singleton] at hp
    subst hp
    exact h
  | q :: q' :: r, h, p, hp => by
    rcases List.mem_cons.1 hp with rfl | hp
    · exact h.1
    · exact condL_mem h.2 p hp

def Sc.occ (b : Nat) : Sc → List (Nat × Nat)
  | .sl b' off len 1 _ => bif Nat.beq b' b then [(off, len)] else []
  | _ => []
def Sc.frz (b : Nat) (k : Blk) : Sc → Sc
  | .sl b' off len 1 cap => bif Nat.beq b' b then k.ro off len else .sl b' off len 1 cap
  | y => y
def A1.occ (b : Nat) : A1 → List (Nat × Nat)
  | .sc s => s.occ b
  | .agg l => l.flatMap (Sc.occ b)
  | .ints _ _ _ => []
def A1.frz (b : Nat) (k : Blk) : A1 → A1
  | .sc s => .sc (s.frz b k)
  | .agg l => .agg (l.map (Sc.frz b k))
  | .ints k n xs => .ints k n xs
def AV.occ (b : Nat) : AV → List (Nat × Nat)
  | .sc s => s.occ b
  | .agg l => l.flatMap (Sc.occ b)
  | .ints _ _ _ => []
  | .tup l => l.flatMap (A1.occ b)
def AV.frz (b : Nat) (k : Blk) : AV → AV
  | .sc s => .sc (s.frz b k)
  | .agg l => .agg (l.map (Sc.frz b k))
  | .ints k n xs => .ints k n xs
  | .tup l => .tup (l.map (A1.frz b k))
def Blk.occ (b : Nat) : Blk → List (Nat × Nat)
  | .cells l => l.flatMap (Sc.occ b)
  | _ => []
def frzB (b : Nat) (k : Blk) : Blk → Blk
  | .cells l => .cells (l.map (Sc.frz b k))
  | x => x
def mapL {α : Type} (f : α → α) : List (Nat × α) → List (Nat × α)
  | [] => []
  | (t, v) :: r => (t, f v) :: mapL f r
theorem look_mapL {α : Type} {f : α → α} {t : Nat} {v : α} : ∀ {l : List (Nat × α)}, look t (mapL f l) = some v → ∃ u, look t l = some u ∧ v = f u
  | [], h => by cases h
  | (m, u) :: r, h => by
    simp only [mapL, look] at h ⊢
    cases hb : Nat.beq m t
    · rw [hb] at h; exact look_mapL (l := r) h
    · rw [hb] at h; simp only [cond_true, Option.some.injEq] at h ⊢; exact ⟨u, rfl, h.symm⟩
def St.occ (b : Nat) (s : St) : List (Nat × Nat) := s.1.flatMap (fun x => x.2.occ b) ++ (drop1 b s.2).flatMap (fun x => x.2.occ b)
def St.frz (b : Nat) (k : Blk) (s : St) : St := (mapL (AV.frz b k) s.1, mapL (frzB b k) (drop1 b s.2))

/-- Who looks back at more. -/
structure FrzE (E E2 : Env) (σ : Sig) (w : World) (b : Nat) (k : Blk) : Prop where
  gr : Grow E E2
  cell : ∀ off len cap V, ScR E σ (.sl b off len 1 cap) V → off + len ≤ k.len → ∃ A c, V = .slice A len c ∧ len ≤ c ∧ (0 < len → ∃ ad, A = some ad ∧ E2.old ad.block ∧ ∀ j, j < len → ∃ s v, k.get? (off + j) = some s ∧ E2.w0.cell? (ad.add j) = some v ∧ ScR E σ s v)

theorem Blk.ro_R {E E2 : Env} {σ : Sig} {w : World} {b : Nat} {k : Blk} (hz : FrzE E E2 σ w b k) (hg : k.good) {off len : Nat} {cap : Option Nat} {V : Value} (h : ScR E σ (.sl b off len 1 cap) V) (hC : k.roC (off, len)) : ScR E2 σ (k.ro off len) V := by
  cases k with
  | cells l => exact hC.elim
  | ints kk n xs =>
    have hC : off + len ≤ n := hC
    have hg : xs.length = n := hg
    show RoR E2 kk (part1 xs n off len) V
    rw [part1_eq hg]
    obtain ⟨A, c, rfl, q1, q2⟩ := hz.cell off len cap V h hC
    have hlen : ((xs.drop off).take len).length = len := by simp; omega
    refine ⟨A, c, by rw [hlen], by rw [hlen]; exact q1, fun hp => ?_⟩
    rw [hlen] at hp
    obtain ⟨ad, rfl, o1, o2⟩ := q2 hp
    refine ⟨ad, rfl, o1, fun j hj => ?_⟩
    rw [hlen] at hj
    obtain ⟨s, v, a1, a2, a3⟩ := o2 j hj
    have hget : xs[off + j]? = some (xs.getD (off + j) 0) := by
      rw [List.getD_eq_getElem?_getD, List.getElem?_eq_getElem (by omega)]; rfl
    have hs : s = .i kk (xs.getD (off + j) 0) := by
      have : (xs[off + j]?).map (.i kk ·) = some s := a1
      rw [hget] at this
      injection this with this
      exact this.symm
    subst hs
    have a3' : v = .int kk (xs.getD (off + j) 0) := a3
    have : ((xs.drop off).take len).getD j 0 = xs.getD (off + j) 0 := by
      simp [List.getD_eq_getElem?_getD, List.getElem?_take, List.getElem?_drop, hj]
    rw [this, ← a3']
    exact a2
  | vec v xs =>
    cases v with
    | tab => exact hC.elim
    | row =>
      have hC : off + len ≤ xs.length := hC
      show ScR E2 σ (.rob (partV xs off len)) V
      rw [partV_eq]
      obtain ⟨A, c, rfl, q1, q2⟩ := hz.cell off len cap V h hC
      have hlen : ((xs.drop off).take len).length = len := by simp; omega
      refine ⟨A, c, by rw [hlen], by rw [hlen]; exact q1, fun hp => ?_⟩
      rw [hlen] at hp
      obtain ⟨ad, rfl, o1, o2⟩ := q2 hp
      refine ⟨ad, rfl, o1, fun j hj => ?_⟩
      rw [hlen] at hj
      obtain ⟨s, v, a1, a2, a3⟩ := o2 j hj
      have hget : xs[off + j]? = some (xs.getD (off + j) []) := by
        rw [List.getD_eq_getElem?_getD, List.getElem?_eq_getElem (by omega)]; rfl
      have hs : s = .ro .u8 (xs.getD (off + j) []) := by
        have : (xs[off + j]?).map (VK.sc .row) = some s := a1
        rw [hget] at this
        injection this with this
        exact this.symm
      subst hs
      have : ((xs.drop off).take len).getD j [] = xs.getD (off + j) [] := by
        simp [List.getD_eq_getElem?_getD, List.getElem?_take, List.getElem?_drop, hj]
      rw [this]
      exact ⟨v, a2, hz.gr.ro a3⟩
    | str =>
      have hC : off + len ≤ xs.length := hC
      show ScR E2 σ (.ros (partV xs off len)) V
      rw [partV_eq]
      obtain ⟨A, c, rfl, q1, q2⟩ := hz.cell off len cap V h hC
      have hlen : ((xs.drop off).take len).length = len := by simp; omega
      refine ⟨A, c, by rw [hlen], by rw [hlen]; exact q1, fun hp => ?_⟩
      rw [hlen] at hp
      obtain ⟨ad, rfl, o1, o2⟩ := q2 hp
      refine ⟨ad, rfl, o1, fun j hj => ?_⟩
      rw [hlen] at hj
      obtain ⟨s, v, a1, a2, a3⟩ := o2 j hj
      have hget : xs[off + j]? = some (xs.getD (off + j) ⟨#[]⟩) := by
        rw [List.getD_eq_getElem?_getD, List.getElem?_eq_getElem (by omega)]; rfl
      have hs : s = .s (xs.getD (off + j) ⟨#[]⟩) := by
        have : (xs[off + j]?).map (VK.sc .str) = some s := a1
        rw [hget] at this
        injection this with this
        exact this.symm
      subst hs
      have a3' : v = .string (xs.getD (off + j) ⟨#[]⟩) := a3
      have : ((xs.drop off).take len).getD j ⟨#[]⟩ = xs.getD (off + j) ⟨#[]⟩ := by
        simp [List.getD_eq_getElem?_getD, List.getElem?_take, List.getElem?_drop, hj]
      rw [this, ← a3']
      exact a2

section
variable {E E2 : Env} {σ : Sig} {w : World} {b : Nat} {k : Blk}

theorem Sc.frz_R (hz : FrzE E E2 σ w b k) (hg : k.good) {s : Sc} {V : Value} (h : ScR E σ s V) (hC : ∀ p ∈ s.occ b, k.roC p) : ScR E2 σ (s.frz b k) V := by
  unfold Sc.frz
  split
  · rename_i b' off len cap
    cases hb : Nat.beq b' b
    · exact ScR.grow (s := .sl b' off len 1 cap) hz.gr h
    · have e := Nat.eq_of_beq_eq_true hb
      subst e
      exact Blk.ro_R hz hg h (hC (off, len) (by simp [Sc.occ, beqT]))
  · exact h.grow hz.gr
theorem scL_frz (hz : FrzE E E2 σ w b k) (hg : k.good) : ∀ {l : List Sc} {m : List Value}, All2 (ScR E σ) l m → (∀ p ∈ l.flatMap (Sc.occ b), k.roC p) → All2 (ScR E2 σ) (l.map (Sc.frz b k)) m
  | [], [], _, _ => trivial
  | s :: r, V :: m, h, hC => ⟨Sc.frz_R hz hg h.1 fun p hp => hC p (by simp [hp]), scL_frz hz hg h.2 fun p hp => hC p (by simp only [List.flatMap_cons, List.mem_append]; exact .inr hp)⟩
theorem A1.frz_R (hz : FrzE E E2 σ w b k) (hg : k.good) {v : A1} {V : Value} (h : A1R E σ v V) (hC : ∀ p ∈ v.occ b, k.roC p) : A1R E2 σ (v.frz b k) V := by
  cases v with
  | sc s => exact Sc.frz_R hz hg h hC
  | agg l => obtain ⟨arr, e, q⟩ := h; exact ⟨arr, e, scL_frz hz hg q hC⟩
  | ints k n xs => exact h
theorem a1L_frz (hz : FrzE E E2 σ w b k) (hg : k.good) : ∀ {l : List A1} {m : List Value}, All2 (A1R E σ) l m → (∀ p ∈ l.flatMap (A1.occ b), k.roC p) → All2 (A1R E2 σ) (l.map (A1.frz b k)) m
  | [], [], _, _ => trivial
  | s :: r, V :: m, h, hC => ⟨A1.frz_R hz hg h.1 fun p hp => hC p (by simp [hp]), a1L_frz hz hg h.2 fun p hp => hC p (by simp only [List.flatMap_cons, List.mem_append]; exact .inr hp)⟩
theorem AV.frz_R (hz : FrzE E E2 σ w b k) (hg : k.good) {v : AV} {V : Value} (h : AVR E σ v V) (hC : ∀ p ∈ v.occ b, k.roC p) : AVR E2 σ (v.frz b k) V := by
  cases v with
  | sc s => exact Sc.frz_R hz hg h hC
  | agg l => obtain ⟨arr, e, q⟩ := h; exact ⟨arr, e, scL_frz hz hg q hC⟩
  | ints k n xs => exact h
  | tup l => obtain ⟨arr, e, q⟩ := h; exact ⟨arr, e, a1L_frz hz hg q hC⟩
theorem frzB_R (hz : FrzE E E2 σ w b k) (hg : k.good) {x : Blk} {p : Pl} (hfz : ∀ l, p = .at l → ¬ E2.fz l.g) (h : BlkR E σ w x p) (hC : ∀ p ∈ x.occ b, k.roC p) : BlkR E2 σ w (frzB b k x) p := by
  cases x with
  | ints kk n xs => exact Blk.grow hz.gr hfz h
  | vec v xs => exact Blk.grow hz.gr hfz h
  | cells l =>
    have hB := Blk.grow hz.gr hfz h
    cases p with
    | unset => exact h
    | nil => exact ⟨by have := h.1; simpa [frzB, Blk.len] using this, trivial⟩
    | «at» L =>
      obtain ⟨g1, arr, elem, lo, hi, p1, p2, p3, p4, p5, p6⟩ := h
      refine ⟨trivial, arr, elem, lo, hi, p1, p2, by simpa [frzB, Blk.len] using p3, hfz L rfl, p5, fun i s hs => ?_⟩
      simp only [frzB, Blk.get?, List.getElem?_map, Option.map_eq_some_iff] at hs
      obtain ⟨s0, h0, rfl⟩ := hs
      obtain ⟨v, q1, q2⟩ := p6 i s0 h0
      exact ⟨v, q1, Sc.frz_R hz hg q2 fun p hp => hC p (List.mem_flatMap.2 ⟨s0, List.mem_of_getElem? h0, hp⟩)⟩
end

theorem look_mem' {α : Type} {b : Nat} {c : α} : ∀ {l : List (Nat × α)}, look b l = some c → (b, c) ∈ l := look_mem

/-- What no one writes to any more is only read from now on, wherever it is told of. -/
theorem Sub.still {s s' : St} (b : Nat) (k : Blk) (hM : look b s.2 = some k) (hC : condL k.roC (s.occ b)) (hs : s.frz b k = s') : Sub U s U s' := by
  subst hs
  obtain ⟨fr, M⟩ := s
  have hcond := condL_mem hC
  rintro E n' a w ⟨E1, hg, σ, h1, h2, h3, h4⟩
  have hB := h1.toMemR.blk b _ hM
  have hgood : k.good := blk_good h1.toMemR hM
  have less : ∀ c k', look c (drop1 b M) = some k' → c ≠ b ∧ look c M = some k' := by
    intro c k' hc
    rw [look_drop1] at hc
    split at hc
    · cases hc
    · rename_i e; exact ⟨e, hc⟩
  -- the two ends
  have fin : ∀ E2, FrzE E1 E2 σ w b k → E2.kp = E1.kp → (∀ c k' L', c ≠ b → look c M = some k' → σ c = .at L' → ¬ E2.fz L'.g) → (∀ g, E2.fz g → w.heap[g]? = E2.w0.heap[g]?) → E2.w0.heap.size ≤ w.heap.size → (∀ g, E2.fz g → g < E2.w0.heap.size) →
      w.os = E2.w0.os → w.tape = E2.w0.tape → w.output = E2.w0.output → Good E n' U (St.frz b k (fr, M)) a w := by
    intro E2 hz hkp hout o1 o2 o3 o4 o5 o6
    refine ⟨E2, hg.trans hz.gr, σ, ?_, h2, h3, h4⟩
    refine { val := fun t v hv => ?_, defers := h1.defers, tmps := h1.tmps, blk := fun c x hc => ?_, inj := fun c d x y L L' hc hd => ?_, old := o1, size := o2, olds := o3, os := o4, tape := o5, output := o6 }
    · obtain ⟨u, q1, rfl⟩ := look_mapL hv
      obtain ⟨V, q2, q3⟩ := h1.val _ _ q1
      exact ⟨V, q2, AV.frz_R hz hgood q3 fun p hp => hcond p (List.mem_append_left _ (List.mem_flatMap.2 ⟨(t, u), look_mem q1, hp⟩))⟩
    · obtain ⟨u, q1, rfl⟩ := look_mapL hc
      obtain ⟨hne, hc'⟩ := less c u q1
      refine frzB_R hz hgood (fun l hl => hout c u l hne hc' hl) (h1.toMemR.blk c u hc') fun p hp => hcond p (List.mem_append_right _ (List.mem_flatMap.2 ⟨(c, u), look_mem q1, hp⟩))
    · obtain ⟨u, q1, _⟩ := look_mapL hc
      obtain ⟨u', q2, _⟩ := look_mapL hd
      exact h1.inj c d u u' L L' (less c u q1).2 (less d u' q2).2
  cases hL : σ b with
  | unset => rw [hL] at hB; exact hB.elim
  | nil =>
    rw [hL] at hB
    refine fin E1 ⟨.refl _, fun off len cap V h hle => ?_⟩ rfl (fun c k' L' _ hc hl => ?_) h1.old h1.size h1.olds h1.os h1.tape h1.output
    · rcases h with ⟨q1, _, A, rfl⟩ | ⟨L, c, q1, _⟩
      · subst q1
        exact ⟨A, 0, rfl, Nat.le_refl _, fun h => absurd h (Nat.lt_irrefl _)⟩
      · rw [hL] at q1; cases q1
    · have := h1.toMemR.blk c k' hc
      rw [hl] at this
      obtain ⟨_, _, _, _, _, _, _, _, q4, _⟩ := this
      exact q4
  | «at» L =>
    rw [hL] at hB
    obtain ⟨g1, arr, elem, lo, hi, p1, p2, p3, p4, p5, p6⟩ := hB
    have hinj : ∀ c k' L', c ≠ b → look c M = some k' → σ c = .at L' → L'.g ≠ L.g := fun c k' L' hne hc hL' he => hne (h1.inj c b k' _ L' L hc hM hL' hL he)
    let E2 : Env := { P := E1.P, w0 := w, old := fun g => E1.old g ∨ g = L.g, fz := fun g => E1.fz g ∨ g = L.g, sub := fun g h => h.elim (fun h => .inl (E1.sub g h)) .inr, kp := E1.kp }
    have gr : Grow E1 E2 :=
      { P := rfl, old := fun g h => .inl h, fz := fun g h => .inl h, w0 := fun g h => h1.old g h
        new := fun g h => by
          rcases h with h | h
          · exact .inl h
          · subst h; exact .inr p4
        size := h1.size, os := h1.os, tape := h1.tape, output := h1.output }
    refine fin E2 ⟨gr, fun off len cap V h hle => ?_⟩ rfl (fun c k' L' hne hc hl hz => ?_) (fun _ _ => rfl) (Nat.le_refl _) (fun g hg => ?_) rfl rfl rfl
    · rcases h with ⟨q1, _, A, rfl⟩ | ⟨L', c, q1, rfl, q2, q3, _⟩
      · subst q1
        exact ⟨A, 0, rfl, Nat.le_refl _, fun h => absurd h (Nat.lt_irrefl _)⟩
      · rw [hL] at q1
        injection q1 with q1
        subst q1
        refine ⟨_, c, rfl, q2, fun _ => ⟨_, rfl, .inr rfl, fun j hj => ?_⟩⟩
        obtain ⟨s, hs⟩ := Blk.get_some g1 (show off + j < k.len by omega)
        obtain ⟨v, e5, e6⟩ := p6 (off + j) _ hs
        refine ⟨s, v, hs, ?_, e6⟩
        rw [addr_add]
        show w.cell? _ = _
        have hlt : L.β + off + j < L.sz := by omega
        have := p5.1 (L.β + off + j) hlt
        simp [World.cell?, p1, this]
        rw [Nat.add_assoc]
        exact e5
    · rcases hz with hz | hz
      · have hB' := h1.toMemR.blk c k' hc
        rw [hl] at hB'
        obtain ⟨_, _, _, _, _, _, _, _, q4, _⟩ := hB'
        exact q4 hz
      · exact hinj c k' L' hne hc hl hz
    · rcases hg with hg | hg
      · exact Nat.lt_of_lt_of_le (h1.olds g hg) h1.size
      · subst hg; exact heap_lt p1

end Go.Vm
