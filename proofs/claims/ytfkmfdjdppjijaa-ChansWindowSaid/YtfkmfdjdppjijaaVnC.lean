/- What a deed of the small machine is worth: an operation of the model's that fits it ends well, in a state that the small machine knows. First part: the memory. -/
import Derived.Test.YtfkmfdjdppjijaaVnB
import Derived.Laws.Sem
import Derived.Laws.World
import Derived.Laws.Cells
import Derived.Laws.Rows
set_option linter.unusedVariables false
set_option linter.unusedSimpArgs false
namespace Go.Vm
open Go

def upd (σ : Sig) (nm : Nat) (p : Pl) : Sig := fun m => if m = nm then p else σ m

theorem upd_same (σ : Sig) (nm : Nat) (p : Pl) : upd σ nm p nm = p := by simp [upd]
theorem upd_other (σ : Sig) {nm m : Nat} (p : Pl) (h : m ≠ nm) : upd σ nm p m = σ m := by simp [upd, h]
theorem ext_upd {σ : Sig} {nm : Nat} (p : Pl) (h : σ nm = .unset) : Ext σ (upd σ nm p) := fun m hm => by
  by_cases e : m = nm
  · subst e; exact absurd h hm
  · exact upd_other σ p e

def Fits (E : Env) (σ : Sig) (nm : Nat) (M : Mem) (A : Deed) (r : Result Next) : Prop :=
  ∀ C v M', A.run M = some (C, v, M') → C → ∃ V w' σ', (r = .ok (.value V) w' ∨ (r = .ok .skip w' ∧ V = undef)) ∧ Ext σ σ' ∧
    (∀ m, ¬ (nm ≤ m ∧ m < nm + 16) → σ' m = σ m) ∧ AVR E σ' v V ∧ MemR E σ' M' w'

section
variable {E : Env} {σ : Sig} {nm : Nat} {M : Mem} {w : World} {A : Deed} {r : Result Next}

theorem fits_pure {C : Prop} {v : AV} (hA : pureD C v = some A) (hM : MemR E σ M w) (h : C → ∃ V, r = .ok (.value V) w ∧ AVR E σ v V) : Fits E σ nm M A r := by
  intro C' v' M' hr hC
  simp only [pureD, Option.some.injEq] at hA
  subst hA
  simp only [Deed.run, lookAll, putAll, put0, Option.some.injEq, Prod.mk.injEq] at hr
  obtain ⟨rfl, rfl, rfl⟩ := hr
  obtain ⟨V, h1, h2⟩ := h hC
  exact ⟨V, w, σ, .inl h1, .refl _, fun _ _ => rfl, h2, hM⟩

theorem fits_load {b : Nat} {f : Blk → Option (Prop × AV)} (hA : loadD b f = some A) (hM : MemR E σ M w)
    (h : ∀ k C v, look b M = some k → f k = some (C, v) → C → ∃ V, r = .ok (.value V) w ∧ AVR E σ v V) : Fits E σ nm M A r := by
  intro C' v' M' hr hC
  simp only [loadD, Option.some.injEq] at hA
  subst hA
  simp only [Deed.run, lookAll] at hr
  cases hk : look b M with
  | none => simp [hk] at hr
  | some k =>
    cases hf : f k with
    | none => simp [hk, hf] at hr
    | some x =>
      obtain ⟨C, v⟩ := x
      simp only [hk, hf, putAll, put0, Option.some.injEq, Prod.mk.injEq] at hr
      obtain ⟨rfl, rfl, rfl⟩ := hr
      obtain ⟨V, h1, h2⟩ := h k C v hk hf hC
      exact ⟨V, w, σ, .inl h1, .refl _, fun _ _ => rfl, h2, hM⟩

theorem fits_new {C : Prop} {k : Blk} {v : AV} (hA : newD nm C k v = some A) (hM : MemR E σ M w) (hn : ∀ m, nm ≤ m → m < nm + 16 → σ m = .unset)
    (h : C → ∃ V w' σ', r = .ok (.value V) w' ∧ Ext σ σ' ∧ (∀ m, m ≠ nm → σ' m = σ m) ∧ AVR E σ' v V ∧ MemR E σ' (put1 nm k M) w') : Fits E σ nm M A r := by
  intro C' v' M' hr hC
  simp only [newD, Option.some.injEq] at hA
  subst hA
  simp only [Deed.run, lookAll, putAll, put0, Option.some.injEq, Prod.mk.injEq] at hr
  obtain ⟨rfl, rfl, rfl⟩ := hr
  obtain ⟨V, w', σ', h1, h2, h3, h4, h5⟩ := h hC
  exact ⟨V, w', σ', .inl h1, h2, fun m hm => h3 m (by omega), h4, h5⟩

theorem fits_store {b : Nat} {f : Blk → Option (Prop × Blk)} (hA : storeD b f = some A)
    (h : ∀ k C k', look b M = some k → f k = some (C, k') → C → ∃ w', r = .ok .skip w' ∧ MemR E σ (put1 b k' M) w') : Fits E σ nm M A r := by
  intro C' v' M' hr hC
  simp only [storeD, Option.some.injEq] at hA
  subst hA
  simp only [Deed.run, lookAll] at hr
  cases hk : look b M with
  | none => simp [hk] at hr
  | some k =>
    cases hf : f k with
    | none => simp [hk, hf] at hr
    | some x =>
      obtain ⟨C, k'⟩ := x
      simp only [hk, hf, putAll, put0, Option.some.injEq, Prod.mk.injEq] at hr
      obtain ⟨rfl, rfl, rfl⟩ := hr
      obtain ⟨w', h1, h2⟩ := h k C k' hk hf hC
      exact ⟨undef, w', σ, .inr ⟨h1, rfl⟩, .refl _, fun _ _ => rfl, undefA_R E σ, h2⟩

/-! ### a new block -/
theorem Blk.get?_lt {k : Blk} (hk : k.good) {j : Nat} {s : Sc} (h : k.get? j = some s) : j < k.len := by
  cases k with
  | ints kd n xs =>
    simp only [Blk.get?, Option.map_eq_some_iff] at h
    obtain ⟨x, hx, _⟩ := h
    have := (List.getElem?_eq_some_iff.1 hx).1
    simp only [Blk.good] at hk
    simp only [Blk.len]; omega
  | cells l => simp only [Blk.get?] at h; exact (List.getElem?_eq_some_iff.1 h).1
  | vec v l =>
    simp only [Blk.get?, Option.map_eq_some_iff] at h
    obtain ⟨x, hx, _⟩ := h
    exact (List.getElem?_eq_some_iff.1 hx).1

theorem BlkR.ext {σ' : Sig} (hx : Ext σ σ') {k : Blk} : ∀ {p : Pl}, BlkR E σ w k p → BlkR E σ' w k p
  | .unset, h => h
  | .nil, h => h
  | .at L, ⟨hg, arr, elem, lo, hi, h1, h2, h3, h4, h5, h6⟩ => ⟨hg, arr, elem, lo, hi, h1, h2, h3, h4, h5, fun j s hs => let ⟨v, a, b⟩ := h6 j s hs; ⟨v, a, b.ext hx⟩⟩

/-- The block lies as it lay. -/
theorem BlkR.same {w' : World} {k : Blk} : ∀ {p : Pl}, (∀ L, p = .at L → w'.heap[L.g]? = w.heap[L.g]?) → BlkR E σ w k p → BlkR E σ w' k p
  | .unset, _, h => h
  | .nil, _, h => h
  | .at L, hs, ⟨hg, arr, elem, lo, hi, h1, r⟩ => ⟨hg, arr, elem, lo, hi, by rw [hs L rfl]; exact h1, r⟩

theorem BlkR.lt {k : Blk} {L : Loc} (h : BlkR E σ w k (.at L)) : L.g < w.heap.size := by
  obtain ⟨_, arr, elem, lo, hi, h1, _⟩ := h
  exact (Array.getElem?_eq_some_iff.1 h1).1

theorem MemR.fresh (hM : MemR E σ M w) : ¬ E.fz w.heap.size := fun h => by
  have := hM.olds _ h
  have := hM.size
  omega

theorem heap_push_lt {w w' : World} {o : Obj} (hw : w'.heap = w.heap.push o) {g : Nat} (h : g < w.heap.size) : w'.heap[g]? = w.heap[g]? := by
  rw [hw]; exact heap_alloc_old w o g h

/-- The memory, one block more; 'nm' is its name. -/
theorem MemR.new' {w' : World} {k : Blk} {arr : Array Value} {elem lo hi : Nat} (hM : MemR E σ M w) (hn : σ nm = .unset)
    (hlt : ∀ g, g < w.heap.size → w'.heap[g]? = w.heap[g]?) (hat : w'.heap[w.heap.size]? = some (.cells arr elem (lo, hi))) (hos : w'.os = w.os) (htape : w'.tape = w.tape) (hout : w'.output = w.output)
    (hk : k.good) (hlen : k.len ≤ arr.size) (hfz : Unfz lo hi arr.size)
    (hc : ∀ j s, k.get? j = some s → ∃ v, arr[j]? = some v ∧ ScR E σ s v) :
    MemR E (upd σ nm (.at ⟨w.heap.size, 0, arr.size⟩)) (put1 nm k M) w' := by
  have hx := ext_upd (σ := σ) (.at ⟨w.heap.size, 0, arr.size⟩) hn
  have hnot : ∀ m x, look m M = some x → m ≠ nm := by
    intro m x hm e
    subst e
    have := hM.blk m x hm
    rw [hn] at this
    exact this
  refine ⟨?_, ?_, ?_, ?_, hM.olds, by rw [hos, hM.os], by rw [htape, hM.tape], by rw [hout, hM.output]⟩
  · intro b x hb
    rw [look_put1] at hb
    by_cases e : b = nm
    · rw [if_pos e] at hb
      injection hb with hb
      subst hb e
      rw [upd_same]
      refine ⟨hk, arr, elem, lo, hi, ?_, rfl, by simpa using hlen, hM.fresh, hfz, ?_⟩
      · exact hat
      · intro j s hs
        obtain ⟨v, h1, h2⟩ := hc j s hs
        exact ⟨v, by simpa using h1, h2.ext hx⟩
    · rw [if_neg e] at hb
      rw [upd_other _ _ e]
      refine BlkR.same ?_ ((hM.blk b x hb).ext hx)
      intro L hL
      have := hM.blk b x hb
      rw [hL] at this
      exact hlt _ this.lt
  · intro b c x y L L' hb hc' hL hL' hg
    rw [look_put1] at hb hc'
    by_cases e : b = nm <;> by_cases e' : c = nm
    · omega
    · exfalso
      rw [if_neg e'] at hc'
      rw [e, upd_same] at hL
      rw [upd_other _ _ e'] at hL'
      have := hM.blk c y hc'
      rw [hL'] at this
      have := this.lt
      injection hL with hL
      subst hL
      simp only at hg
      omega
    · exfalso
      rw [if_neg e] at hb
      rw [e', upd_same] at hL'
      rw [upd_other _ _ e] at hL
      have := hM.blk b x hb
      rw [hL] at this
      have := this.lt
      injection hL' with hL'
      subst hL'
      simp only at hg
      omega
    · rw [if_neg e] at hb
      rw [if_neg e'] at hc'
      rw [upd_other _ _ e] at hL
      rw [upd_other _ _ e'] at hL'
      exact hM.inj b c x y L L' hb hc' hL hL' hg
  · intro g hg
    rw [hlt g (by have := hM.olds g hg; have := hM.size; omega)]
    exact hM.old g hg
  · have := hM.size; have := (Array.getElem?_eq_some_iff.1 hat).1; omega

theorem MemR.new {w' : World} {k : Blk} {arr : Array Value} {elem lo hi : Nat} (hM : MemR E σ M w) (hn : σ nm = .unset)
    (hw : w'.heap = w.heap.push (.cells arr elem (lo, hi))) (hos : w'.os = w.os) (htape : w'.tape = w.tape) (hout : w'.output = w.output)
    (hk : k.good) (hlen : k.len ≤ arr.size) (hfz : Unfz lo hi arr.size)
    (hc : ∀ j s, k.get? j = some s → ∃ v, arr[j]? = some v ∧ ScR E σ s v) :
    MemR E (upd σ nm (.at ⟨w.heap.size, 0, arr.size⟩)) (put1 nm k M) w' :=
  hM.new' hn (fun g hg => heap_push_lt hw hg) (by rw [hw]; exact heap_alloc_new w _) hos htape hout hk hlen hfz hc

/-! ### a block written -/
theorem cell_of_blk {w : World} {arr : Array Value} {g elem : Nat} {f : Nat × Nat} (h : w.heap[g]? = some (.cells arr elem f)) (o : Nat) : w.cell? ⟨g, o, none⟩ = arr[o]? :=
  cell_of_row w g o arr elem f h

/-- The memory with one block's cells turned. -/
theorem MemR.turn {w' : World} {b : Nat} {k k' : Blk} {L : Loc} {arr arr' : Array Value} {elem lo hi : Nat} (hM : MemR E σ M w) (hb : look b M = some k) (hL : σ b = .at L)
    (harr : w.heap[L.g]? = some (.cells arr elem (lo, hi))) (harr' : w'.heap[L.g]? = some (.cells arr' elem (lo, hi))) (hsz : arr'.size = arr.size)
    (hother : ∀ g, g ≠ L.g → w'.heap[g]? = w.heap[g]?) (hsize : w'.heap.size = w.heap.size) (hos : w'.os = w.os) (htape : w'.tape = w.tape) (hout : w'.output = w.output)
    (hk : k'.good) (hlen : k'.len = k.len) (hc : ∀ j s, k'.get? j = some s → ∃ v, arr'[L.β + j]? = some v ∧ ScR E σ s v) :
    MemR E σ (put1 b k' M) w' := by
  have hB := hM.blk b k hb
  rw [hL] at hB
  obtain ⟨_, a1, e1, l1, h1, hh, hs, hle, hno, hfz, _⟩ := hB
  have hsame : a1 = arr ∧ e1 = elem ∧ l1 = lo ∧ h1 = hi := by
    have := hh.symm.trans harr
    simp only [Option.some.injEq, Obj.cells.injEq, Prod.mk.injEq] at this
    exact ⟨this.1, this.2.1, this.2.2.1, this.2.2.2⟩
  obtain ⟨rfl, rfl, rfl, rfl⟩ := hsame
  refine ⟨?_, ?_, ?_, ?_, hM.olds, by rw [hos, hM.os], by rw [htape, hM.tape], by rw [hout, hM.output]⟩
  · intro c x hcx
    rw [look_put1] at hcx
    by_cases e : c = b
    · rw [if_pos e] at hcx
      injection hcx with hcx
      subst hcx e
      rw [hL]
      exact ⟨hk, arr', _, _, _, harr', by omega, by omega, hno, hfz, hc⟩
    · rw [if_neg e] at hcx
      refine BlkR.same ?_ (hM.blk c x hcx)
      intro L' hL'
      refine hother _ fun hg => e ?_
      exact hM.inj c b x k L' L hcx hb hL' hL hg
  · intro c d x y L1 L2 hc1 hd hL1 hL2 hg
    have get : ∀ m z, look m (put1 b k' M) = some z → ∃ z', look m M = some z' := by
      intro m z hm
      rw [look_put1] at hm
      by_cases e : m = b
      · subst e; exact ⟨k, hb⟩
      · rw [if_neg e] at hm; exact ⟨z, hm⟩
    obtain ⟨x', hx'⟩ := get c x hc1
    obtain ⟨y', hy'⟩ := get d y hd
    exact hM.inj c d x' y' L1 L2 hx' hy' hL1 hL2 hg
  · intro g hg
    rw [hother g (fun e => hno (e ▸ hg))]
    exact hM.old g hg
  · rw [hsize]; exact hM.size

/-- Nothing more is known of a block. -/
theorem MemR.drop (hM : MemR E σ M w) (b : Nat) : MemR E σ (drop1 b M) w := by
  have get : ∀ m z, look m (drop1 b M) = some z → look m M = some z := by
    intro m z hm
    rw [look_drop1] at hm
    split at hm
    · cases hm
    · exact hm
  exact ⟨fun m z hm => hM.blk m z (get m z hm), fun c d x y L1 L2 hc hd => hM.inj c d x y L1 L2 (get c x hc) (get d y hd), hM.old, hM.size, hM.olds, hM.os, hM.tape, hM.output⟩

/-- The world but for what nobody looks at. -/
theorem MemR.world {w' : World} (hM : MemR E σ M w) (hh : w'.heap = w.heap) (hos : w'.os = w.os) (htape : w'.tape = w.tape) (hout : w'.output = w.output) : MemR E σ M w' :=
  ⟨fun b k hb => (hM.blk b k hb).same fun L _ => by rw [hh], hM.inj, fun g hg => by rw [hh]; exact hM.old g hg, by rw [hh]; exact hM.size, hM.olds, by rw [hos, hM.os], by rw [htape, hM.tape], by rw [hout, hM.output]⟩

/-! ### a cell read -/
theorem Blk.at_get {k : Blk} (hk : k.good) {j : Nat} (h : (k.at j).1) : k.get? j = some (k.at j).2 := by
  cases k with
  | ints kd n xs =>
    simp only [Blk.at, Blk.good] at h hk
    simp only [Blk.get?, Blk.at, List.getD_eq_getElem?_getD]
    have : j < xs.length := by omega
    simp [List.getElem?_eq_getElem this]
  | cells l =>
    simp only [Blk.at] at h
    simp only [Blk.get?, Blk.at, List.getD_eq_getElem?_getD]
    simp [List.getElem?_eq_getElem h]
  | vec v l =>
    simp only [Blk.at] at h
    simp only [Blk.get?, Blk.at, List.getD_eq_getElem?_getD]
    simp [List.getElem?_eq_getElem h]

theorem BlkR.read {k : Blk} {L : Loc} (h : BlkR E σ w k (.at L)) {j : Nat} {s : Sc} (hs : k.get? j = some s) : ∃ v, w.cell? ⟨L.g, L.β + j, none⟩ = some v ∧ ScR E σ s v := by
  obtain ⟨_, arr, elem, lo, hi, h1, _, _, _, _, h6⟩ := h
  obtain ⟨v, hv, hr⟩ := h6 j s hs
  exact ⟨v, by rw [cell_of_blk h1]; exact hv, hr⟩

end
end Go.Vm
