/- Arguments of a row, as the machine's values. -/
import Derived.Test.YtfkmfdjdppjijaaVnU
import Derived.OpenShut
import Derived.DataShut
import Derived.ChangeSlices
import Derived.SliceStrings
set_option linter.unusedVariables false
set_option linter.unusedSimpArgs false
namespace Go.Vm
open Go

/-- Cells that hold integers of a kind. -/
def AllInt (k : IntKind) (cs : List Value) : Prop := ∀ c ∈ cs, ∃ z, c = .int k z ∧ (Lit.int k z).wf = true

theorem allInt_list {k : IntKind} : ∀ {cs : List Value}, AllInt k cs → ∃ zs : List Int, cs = intVals k zs ∧ ∀ z ∈ zs, k.min ≤ z ∧ z ≤ k.max
  | [], _ => ⟨[], rfl, fun _ h => by cases h⟩
  | c :: cs, h => by
    obtain ⟨z, rfl, hz⟩ := h c (by simp)
    obtain ⟨zs, rfl, hs⟩ := allInt_list (cs := cs) fun x hx => h x (List.mem_cons_of_mem _ hx)
    refine ⟨z :: zs, rfl, fun x hx => ?_⟩
    rcases List.mem_cons.1 hx with rfl | hx
    · exact (Lit.wf_int_iff _ _).1 hz
    · exact hs x hx

section
variable {H : Type} {enc : TypeId × Value → H} {P : Program} {w : World} {base : Nat} {spare : Nat → Bool} {held : Bool}

theorem trod_ints1 {t : TypeId} {k : IntKind} {fuel : Nat} {cs : List Value} {x : DataW H × List MemPlace} (ht : P.underlying t = some (.int k)) (h : DataW.trod enc P w base spare held fuel t cs = some x) : AllInt k cs := by
  obtain ⟨n, rfl, _, hw⟩ := DataW.trod_int ht h
  intro c hc
  rw [List.mem_singleton] at hc
  exact ⟨n, hc, hw⟩

theorem trod_intsN {t e : TypeId} {k : IntKind} {n s : Nat} {fuel : Nat} {cs : List Value} {x : DataW H × List MemPlace} (ht : P.underlying t = some (.array n e)) (hs : P.cellsOf e = s) (hn : P.cellsOf t = n * s)
    (he : ∀ (fuel : Nat) (cs : List Value) (x : DataW H × List MemPlace), DataW.trod enc P w base spare held fuel e cs = some x → AllInt k cs)
    (h : DataW.trod enc P w base spare held fuel t cs = some x) : AllInt k cs := by
  obtain ⟨xs, m, _, _, hl, hx, hp⟩ := DataW.trod_array ht h
  intro c hc
  obtain ⟨i, hi, rfl⟩ := List.mem_iff_getElem.1 hc
  rw [hl, hn] at hi
  rcases Nat.eq_zero_or_pos s with h0 | h0
  · rw [h0, Nat.mul_zero] at hi; omega
  have hq : i / s < n := by rw [Nat.div_lt_iff_lt_mul h0]; exact hi
  have h1 := hp (i / s) hq
  rw [List.getElem?_eq_getElem (by omega)] at h1
  refine he _ _ _ h1 _ ?_
  rw [hs]
  have hr : i % s < s := Nat.mod_lt _ h0
  refine List.mem_iff_getElem?.2 ⟨i % s, ?_⟩
  rw [List.getElem?_take, if_pos hr, List.getElem?_drop, List.getElem?_eq_getElem (by rw [hl, hn]; have := Nat.div_add_mod' i s; omega)]
  congr 1
  have := Nat.div_add_mod' i s
  congr 1

/-- An array of integers that came in. -/
theorem open_ints_arr {t : TypeId} {k : IntKind} {n : Nat} {v : Value} {d : DataW H} {ps : List MemPlace} (hok : ∃ cs, v = .agg cs ∧ cs.size = n)
    (he : ∀ (fuel : Nat) (cs : List Value) (x : DataW H × List MemPlace), DataW.trod enc P w base spare held fuel t cs = some x → AllInt k cs)
    (h : DataW.Trod enc P w base spare held t v d ps) : ∃ zs : List Int, v = .agg (intVals k zs).toArray ∧ zs.length = n ∧ ∀ z ∈ zs, k.min ≤ z ∧ z ≤ k.max := by
  obtain ⟨cs, rfl, hl⟩ := hok
  obtain ⟨fuel, hf⟩ := h
  have hc : (Value.agg cs).cells.toList = cs.toList := rfl
  rw [hc] at hf
  obtain ⟨zs, hz, hw⟩ := allInt_list (he _ _ _ hf)
  refine ⟨zs, ?_, ?_, hw⟩
  · rw [← hz]
  · have := congrArg List.length hz
    rw [intVals, List.length_map] at this
    rw [← this]; simpa using hl

theorem okWide_arr {t e : TypeId} {n : Nat} {r : Reach} {v : Value} (ht : P.underlying t = some (.array n e)) (h : Value.okWide P w r base t v) : ∃ cs, v = .agg cs ∧ cs.size = P.cellsOf t := by
  unfold Value.okWide at h
  rw [ht] at h
  obtain ⟨cs, h1, h2, _⟩ := h
  exact ⟨cs, h1, h2⟩
end

/-- What the walk is told of a slice of integers that came in. -/
def RowI (k : IntKind) (w : World) (a : Option Addr) (len cap : Nat) (zs : List Int) : Prop :=
  (a = none ∧ len = 0 ∧ cap = 0 ∧ zs = []) ∨
  ∃ x, a = some x ∧ len ≤ cap ∧ cap ≤ maxLen ∧ zs.length = cap ∧ (∀ i, i < zs.length → w.cell? (x.add i) = some (.int k (zs.getD i 0))) ∧ ∀ n ∈ zs, (Lit.int k n).wf = true

theorem RowI.fits {k : IntKind} {w : World} {a : Option Addr} {len cap : Nat} {zs : List Int} (h : RowI k w a len cap zs) (n : Nat) : ∀ x ∈ zs.take n, k.min ≤ x ∧ x ≤ k.max := by
  intro x hx
  have hm := List.mem_of_mem_take hx
  rcases h with ⟨_, _, _, rfl⟩ | ⟨_, _, _, _, _, _, hw⟩
  · cases hm
  · exact (Lit.wf_int_iff _ _).1 (hw x hm)

/-! ### slices of slices of bytes, and of strings -/
theorem list_of {α : Type} {d : α} {Q : Nat → α → Prop} : ∀ {n : Nat}, (∀ i, i < n → ∃ y, Q i y) → ∃ zs : List α, zs.length = n ∧ ∀ i, i < n → Q i (zs.getD i d)
  | 0, _ => ⟨[], rfl, fun i hi => absurd hi (Nat.not_lt_zero i)⟩
  | n + 1, h => by
    obtain ⟨zs, h1, h2⟩ := list_of (d := d) (n := n) fun i hi => h i (by omega)
    obtain ⟨y, hy⟩ := h n (by omega)
    refine ⟨zs ++ [y], by simp [h1], fun i hi => ?_⟩
    rw [List.getD_eq_getElem?_getD]
    by_cases e : i < n
    · rw [List.getElem?_append_left (by omega), ← List.getD_eq_getElem?_getD]
      exact h2 i e
    · have e2 : i = n := by omega
      subst e2
      rw [List.getElem?_append_right (by omega), h1, Nat.sub_self]
      exact hy

/-- What the walk is told of a slice of slices of bytes that came in. -/
def RowB (w : World) (a : Option Addr) (len cap : Nat) (zs : List (List Int)) : Prop :=
  (a = none ∧ len = 0 ∧ cap = 0 ∧ zs = []) ∨
  ∃ x, a = some x ∧ len ≤ cap ∧ cap ≤ maxLen ∧ zs.length = len ∧ ∀ i, i < len → ∃ a' l' c' z', w.cell? (x.add i) = some (.slice a' l' c') ∧ RowI .u8 w a' l' c' z' ∧ zs.getD i [] = z'.take l'

theorem RowI.short {k : IntKind} {w : World} {a : Option Addr} {len cap : Nat} {zs : List Int} (h : RowI k w a len cap zs) : (zs.take len).length ≤ maxLen := by
  rcases h with ⟨_, _, _, rfl⟩ | ⟨_, _, _, h2, h3, _⟩
  · simp
  · simp only [List.length_take]; omega

theorem RowB.fits {w : World} {a : Option Addr} {len cap : Nat} {zs : List (List Int)} (h : RowB w a len cap zs) : ∀ y ∈ zs, ∀ x ∈ y, IntKind.min .u8 ≤ x ∧ x ≤ IntKind.max .u8 := by
  rcases h with ⟨_, _, _, rfl⟩ | ⟨_, _, h1, h2, h3, h4⟩
  · exact fun y hy => by cases hy
  · intro y hy
    obtain ⟨i, hi⟩ := List.getElem?_of_mem hy
    have hlt := (List.getElem?_eq_some_iff.1 hi).1
    obtain ⟨a', l', c', z', _, q2, q3⟩ := h4 i (by omega)
    rw [List.getD_eq_getElem?_getD, hi] at q3
    simp only [Option.getD_some] at q3
    subst q3
    exact q2.fits l'

theorem rob_row {P : Program} {σ : Sig} {w : World} {a : Option Addr} {len cap : Nat} {zs : List (List Int)} (h : RowB w a len cap zs) : AVR (E0 P w) σ (.sc (.rob zs)) (.slice a len cap) := by
  rcases h with ⟨rfl, rfl, rfl, rfl⟩ | ⟨x, rfl, h1, h2, h3, h4⟩
  · exact ⟨none, 0, rfl, by simp, by simp⟩
  · subst h3
    refine ⟨some x, cap, rfl, h1, fun hp => ⟨x, rfl, ?_, fun j hj => ?_⟩⟩
    · obtain ⟨a', l', c', z', q1, _⟩ := h4 0 hp
      have := cell_lt q1
      rw [add_block] at this
      exact this
    · obtain ⟨a', l', c', z', q1, q2, q3⟩ := h4 j hj
      refine ⟨_, q1, ?_⟩
      rw [q3]
      exact ro_row (P := P) (σ := σ) q2

section
variable {H : Type} {enc : TypeId × Value → H} {P : Program} {w : World} {base : Nat} {held : Bool}

theorem sized_ints {t e : TypeId} {k : IntKind} {zs : List Int} {l : Nat} {d : DataW H} {p p' : List MemPlace} (ht : P.underlying t = some (.slice e)) (hb : 0 < P.bytesOf e) (hx : (d, p) = (.slice (Go.ChangeShapes.lits k (zs.take l)) (Go.ChangeShapes.lits k (zs.drop l)), p'))
    (hq : ∀ n ∈ d.weights P t, n ≤ reachBytes) : zs.length ≤ 140737488351232 := by
  obtain rfl := congrArg Prod.fst hx
  have h := hq ((Go.ChangeShapes.lits (H := H) k (zs.take l)).length + (Go.ChangeShapes.lits (H := H) k (zs.drop l)).length |> (· * P.bytesOf e)) (by simp [DataW.weights, ht])
  simp only [Go.ChangeShapes.lits, List.length_map, List.length_take, List.length_drop] at h
  have h2 : min l zs.length + (zs.length - l) = zs.length := by omega
  rw [h2] at h
  have h3 : zs.length * 1 ≤ zs.length * P.bytesOf e := Nat.mul_le_mul_left _ hb
  have h4 : reachBytes = 140737488351232 := by decide
  omega

theorem weights_all {e : TypeId} : ∀ {l : List (DataW H)} {d : DataW H}, d ∈ l → ∀ n ∈ d.weights P e, n ∈ DataW.weightsAll P e l
  | x :: l, d, h, n, hn => by
    simp only [DataW.weightsAll, List.mem_append]
    rcases List.mem_cons.1 h with rfl | h
    · exact .inl hn
    · exact .inr (weights_all h n hn)

theorem sized_strs {t e : TypeId} {ss : List ByteArray} {l : Nat} {d : DataW H} {p p' : List MemPlace} (ht : P.underlying t = some (.slice e)) (hb : 0 < P.bytesOf e) (hx : (d, p) = (.slice (Go.ChangeShapes.strs (ss.take l)) (Go.ChangeShapes.strs (ss.drop l)), p'))
    (hq : ∀ n ∈ d.weights P t, n ≤ reachBytes) : ss.length ≤ 140737488351232 ∧ ∀ y ∈ ss, y.size ≤ 140737488351232 := by
  obtain rfl := congrArg Prod.fst hx
  have h4 : reachBytes = 140737488351232 := by decide
  refine ⟨?_, fun y hy => ?_⟩
  · have h := hq ((Go.ChangeShapes.strs (H := H) (ss.take l)).length + (Go.ChangeShapes.strs (H := H) (ss.drop l)).length |> (· * P.bytesOf e)) (by simp [DataW.weights, ht])
    simp only [Go.ChangeShapes.strs, List.length_map, List.length_take, List.length_drop] at h
    have h2 : min l ss.length + (ss.length - l) = ss.length := by omega
    rw [h2] at h
    have h3 : ss.length * 1 ≤ ss.length * P.bytesOf e := Nat.mul_le_mul_left _ hb
    omega
  · have hm : y ∈ ss.take l ∨ y ∈ ss.drop l := by rw [← List.mem_append, List.take_append_drop]; exact hy
    have hw : y.size ∈ (DataW.lit (H := H) (.string y.data.toList)).weights P e := by
      simp only [DataW.weights, List.mem_singleton, Array.length_toList]
      rfl
    have hS : ∀ L : List ByteArray, y ∈ L → (DataW.lit (.string y.data.toList) : DataW H) ∈ Go.ChangeShapes.strs L := fun L h => List.mem_map.2 ⟨y, h, rfl⟩
    have h := hq y.size (by
      simp only [DataW.weights, ht, List.mem_cons, List.mem_append]
      refine .inr ?_
      rcases hm with hm | hm
      · exact .inl (weights_all (d := .lit (.string y.data.toList)) (hS _ hm) _ hw)
      · exact .inr (weights_all (d := .lit (.string y.data.toList)) (hS _ hm) _ hw))
    omega

theorem open_rows {t e e2 : TypeId} {fuel : Nat} {cs : List Value} {d : DataW H} {p : List MemPlace} (ht : P.underlying t = some (.slice e)) (he : P.underlying e = some (.slice e2)) (he2 : P.underlying e2 = some (.int .u8)) (hc : P.cellsOf e = 1) (hc2 : P.cellsOf e2 = 1) (hb : 0 < P.bytesOf e) (hb2 : 0 < P.bytesOf e2)
    (h : DataW.trod enc P w base (fun _ => true) held fuel t cs = some (d, p)) (hq : ∀ n ∈ d.weights P t, n ≤ reachBytes) :
    ∃ a len cap zs, cs = [.slice a len cap] ∧ RowB w a len cap zs ∧ zs.length ≤ 140737488351232 ∧ ∀ y ∈ zs, y.length ≤ 140737488351232 := by
  have h4 : reachBytes = 140737488351232 := by decide
  rcases DataW.trod_slice ht h with ⟨rfl, _⟩ | ⟨a, len, cap, elems, rest, n, _, rfl, hx, hb', hl, hm, hlen, hel, _, _⟩
  · exact ⟨none, 0, 0, [], rfl, .inl ⟨rfl, rfl, rfl, rfl⟩, Nat.zero_le _, fun y hy => by cases hy⟩
  obtain rfl : d = .slice (elems.map (·.1)) (rest.map (·.1)) := congrArg Prod.fst hx
  have key : ∀ i, i < len → ∃ y : List Int, (∃ a' l' c' z', w.cell? (a.add i) = some (.slice a' l' c') ∧ RowI .u8 w a' l' c' z' ∧ y = z'.take l') ∧ y.length ≤ 140737488351232 := by
    intro i hi
    have h1 := hel i hi
    have hmem : elems[i]'(by omega) ∈ elems := List.getElem_mem _
    generalize hE : elems[i]'(by omega) = E at hmem
    rw [hc, Nat.mul_one, List.getElem?_eq_getElem (by omega), hE, Option.bind_eq_some_iff] at h1
    obtain ⟨cs', hcs, hy⟩ := h1
    rcases Go.ChangeShapes.open_ints he he2 hc2 hy with ⟨rfl, _⟩ | ⟨b, l', c', zs, rfl, _, q1, q2, q3, q4, q5, q6⟩
    · exact ⟨[], ⟨none, 0, 0, [], Go.ChangeShapes.cell_of_cells?_one hcs, .inl ⟨rfl, rfl, rfl, rfl⟩, rfl⟩, Nat.zero_le _⟩
    · have hz := sized_ints (d := E.1) (p := E.2) he hb2 q4 fun m hm' => hq m (by
        simp only [DataW.weights, ht, List.mem_cons, List.mem_append]
        exact .inr (.inl (weights_all (List.mem_map_of_mem hmem) m hm')))
      exact ⟨_, ⟨some b, l', c', zs, Go.ChangeShapes.cell_of_cells?_one hcs, .inr ⟨b, rfl, q1, q2, by simpa using q3, q5, q6⟩, rfl⟩, by simp only [List.length_take]; omega⟩
  obtain ⟨zs, h1, h2⟩ := list_of (d := ([] : List Int)) key
  refine ⟨some a, len, cap, zs, rfl, .inr ⟨a, rfl, hl, hm, h1, fun i hi => (h2 i hi).1⟩, ?_, fun y hy => ?_⟩
  · have h5 := hq (((elems.map (·.1)).length + (rest.map (·.1)).length) * P.bytesOf e) (by simp [DataW.weights, ht])
    simp only [List.length_map] at h5
    have h6 : (elems.length + rest.length) * 1 ≤ (elems.length + rest.length) * P.bytesOf e := Nat.mul_le_mul_left _ hb
    omega
  · obtain ⟨i, hi⟩ := List.getElem?_of_mem hy
    have hlt := (List.getElem?_eq_some_iff.1 hi).1
    have := (h2 i (by omega)).2
    rw [List.getD_eq_getElem?_getD, hi] at this
    exact this
end

/-- What the walk is told of a slice of strings that came in. -/
def RowS (w : World) (a : Option Addr) (len cap : Nat) (zs : List ByteArray) : Prop :=
  (a = none ∧ len = 0 ∧ cap = 0 ∧ zs = []) ∨
  ∃ x, a = some x ∧ len ≤ cap ∧ cap ≤ maxLen ∧ zs.length = cap ∧ (∀ i, i < zs.length → w.cell? (x.add i) = some (.string (zs.getD i ByteArray.empty))) ∧ ∀ s ∈ zs, s.size ≤ maxLen

theorem RowS.fits {w : World} {a : Option Addr} {len cap : Nat} {zs : List ByteArray} (h : RowS w a len cap zs) (n : Nat) : (zs.take n).length ≤ maxLen ∧ ∀ y ∈ zs.take n, y.size ≤ maxLen := by
  rcases h with ⟨_, _, _, rfl⟩ | ⟨_, _, h1, h2, h3, h4, h5⟩
  · simp
  · refine ⟨by simp only [List.length_take]; omega, fun y hy => h5 y (List.mem_of_mem_take hy)⟩

theorem ros_row {P : Program} {σ : Sig} {w : World} {a : Option Addr} {len cap : Nat} {zs : List ByteArray} (h : RowS w a len cap zs) : AVR (E0 P w) σ (.sc (.ros (zs.take len))) (.slice a len cap) := by
  rcases h with ⟨rfl, rfl, rfl, rfl⟩ | ⟨x, rfl, h1, h2, h3, h4, _⟩
  · exact ⟨none, 0, rfl, by simp, by simp⟩
  · have hl : (zs.take len).length = len := by simp; omega
    refine ⟨some x, cap, by rw [hl], by rw [hl]; exact h1, fun hp => ⟨x, rfl, ?_, fun j hj => ?_⟩⟩
    · have := cell_lt (h4 0 (by omega))
      rw [add_block] at this
      exact this
    · rw [hl] at hj
      show w.cell? _ = _
      rw [h4 j (by omega)]
      simp [List.getD_eq_getElem?_getD, List.getElem?_take, hj, ByteArray.empty, ByteArray.emptyWithCapacity]
      rfl

end Go.Vm
