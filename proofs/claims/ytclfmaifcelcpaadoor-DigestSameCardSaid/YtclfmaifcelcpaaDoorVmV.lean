/- Arguments of a row, as the machine's values. -/
import Derived.Test.YtclfmaifcelcpaaDoorVmU
import Derived.OpenShut
import Derived.DataShut
set_option linter.unusedVariables false
set_option linter.unusedSimpArgs false
namespace Go.Vm
open Go

/-- Cells that hold integers of a kind. -/
def AllInt (k : IntKind) (cs : List Value) : Prop := ∀ c ∈ cs, ∃ z, c = .int k z ∧ (Lit.int k z).wf = true

theorem allInt_list {k : IntKind} : ∀ {cs : List Value}, AllInt k cs → ∃ zs : List Int, cs = intVals k zs ∧ ∀ z ∈ zs, k.min ≤ z ∧ z ≤ k.max
  | [], _ => ⟨[], rfl, fun _ h => by cases h⟩
  | c :: cs, h => by
    obtain ⟨z, rfl, hz⟩ := h c (by simp)
    obtain ⟨zs, rfl, hs⟩ := allInt_list (cs := cs) fun x hx => h x (List.mem_cons_of_mem _ hx)
    refine ⟨z :: zs, rfl, fun x hx => ?_⟩
    rcases List.mem_cons.1 hx with rfl | hx
    · exact (Lit.wf_int_iff _ _).1 hz
    · exact hs x hx

section
variable {H : Type} {enc : TypeId × Value → H} {P : Program} {w : World} {base : Nat} {spare : Nat → Bool} {held : Bool}

theorem trod_ints1 {t : TypeId} {k : IntKind} {fuel : Nat} {cs : List Value} {x : DataW H × List MemPlace} (ht : P.underlying t = some (.int k)) (h : DataW.trod enc P w base spare held fuel t cs = some x) : AllInt k cs := by
  obtain ⟨n, rfl, _, hw⟩ := DataW.trod_int ht h
  intro c hc
  rw [List.mem_singleton] at hc
  exact ⟨n, hc, hw⟩

theorem trod_intsN {t e : TypeId} {k : IntKind} {n s : Nat} {fuel : Nat} {cs : List Value} {x : DataW H × List MemPlace} (ht : P.underlying t = some (.array n e)) (hs : P.cellsOf e = s) (hn : P.cellsOf t = n * s)
    (he : ∀ (fuel : Nat) (cs : List Value) (x : DataW H × List MemPlace), DataW.trod enc P w base spare held fuel e cs = some x → AllInt k cs)
    (h : DataW.trod enc P w base spare held fuel t cs = some x) : AllInt k cs := by
  obtain ⟨xs, m, _, _, hl, hx, hp⟩ := DataW.trod_array ht h
  intro c hc
  obtain ⟨i, hi, rfl⟩ := List.mem_iff_getElem.1 hc
  rw [hl, hn] at hi
  rcases Nat.eq_zero_or_pos s with h0 | h0
  · rw [h0, Nat.mul_zero] at hi; omega
  have hq : i / s < n := by rw [Nat.div_lt_iff_lt_mul h0]; exact hi
  have h1 := hp (i / s) hq
  rw [List.getElem?_eq_getElem (by omega)] at h1
  refine he _ _ _ h1 _ ?_
  rw [hs]
  have hr : i % s < s := Nat.mod_lt _ h0
  refine List.mem_iff_getElem?.2 ⟨i % s, ?_⟩
  rw [List.getElem?_take, if_pos hr, List.getElem?_drop, List.getElem?_eq_getElem (by rw [hl, hn]; have := Nat.div_add_mod' i s; omega)]
  congr 1
  have := Nat.div_add_mod' i s
  congr 1

/-- An array of integers that came in. -/
theorem open_ints_arr {t : TypeId} {k : IntKind} {n : Nat} {v : Value} {d : DataW H} {ps : List MemPlace} (hok : ∃ cs, v = .agg cs ∧ cs.size = n)
    (he : ∀ (fuel : Nat) (cs : List Value) (x : DataW H × List MemPlace), DataW.trod enc P w base spare held fuel t cs = some x → AllInt k cs)
    (h : DataW.Trod enc P w base spare held t v d ps) : ∃ zs : List Int, v = .agg (intVals k zs).toArray ∧ zs.length = n ∧ ∀ z ∈ zs, k.min ≤ z ∧ z ≤ k.max := by
  obtain ⟨cs, rfl, hl⟩ := hok
  obtain ⟨fuel, hf⟩ := h
  have hc : (Value.agg cs).cells.toList = cs.toList := rfl
  rw [hc] at hf
  obtain ⟨zs, hz, hw⟩ := allInt_list (he _ _ _ hf)
  refine ⟨zs, ?_, ?_, hw⟩
  · rw [← hz]
  · have := congrArg List.length hz
    rw [intVals, List.length_map] at this
    rw [← this]; simpa using hl

theorem okWide_arr {t e : TypeId} {n : Nat} {r : Reach} {v : Value} (ht : P.underlying t = some (.array n e)) (h : Value.okWide P w r base t v) : ∃ cs, v = .agg cs ∧ cs.size = P.cellsOf t := by
  unfold Value.okWide at h
  rw [ht] at h
  obtain ⟨cs, h1, h2, _⟩ := h
  exact ⟨cs, h1, h2⟩
end

/-- What the walk is told of a slice of integers that came in. -/
def RowI (k : IntKind) (w : World) (a : Option Addr) (len cap : Nat) (zs : List Int) : Prop :=
  (a = none ∧ len = 0 ∧ cap = 0 ∧ zs = []) ∨
  ∃ x, a = some x ∧ len ≤ cap ∧ cap ≤ maxLen ∧ zs.length = cap ∧ (∀ i, i < zs.length → w.cell? (x.add i) = some (.int k (zs.getD i 0))) ∧ ∀ n ∈ zs, (Lit.int k n).wf = true

theorem RowI.fits {k : IntKind} {w : World} {a : Option Addr} {len cap : Nat} {zs : List Int} (h : RowI k w a len cap zs) (n : Nat) : ∀ x ∈ zs.take n, k.min ≤ x ∧ x ≤ k.max := by
  intro x hx
  have hm := List.mem_of_mem_take hx
  rcases h with ⟨_, _, _, rfl⟩ | ⟨_, _, _, _, _, _, hw⟩
  · cases hm
  · exact (Lit.wf_int_iff _ _).1 (hw x hm)
end Go.Vm
