/- strings.Join, by the library's contract. -/
import Derived.Test.YtfkmfdjdppjijaaVnZ
import Derived.Below
import Derived.Lib.Join
set_option linter.unusedVariables false
set_option linter.unusedSimpArgs false
namespace Go.Vm
open Go

/-- What was there is there, when a call has written to none of it. -/
theorem MemR.below {E : Env} {σ : Sig} {M : Mem} {w w' : World} (h : MemR E σ M w) (b : Go.RowKit.Below w.heap.size w w') : MemR E σ M w' where
  blk c k hc := (h.blk c k hc).same fun L hL => b.block _ (by have := h.blk c k hc; rw [hL] at this; exact this.lt)
  inj := h.inj
  old g hg := (b.block g (Nat.lt_of_lt_of_le (h.olds g hg) h.size)).trans (h.old g hg)
  size := Nat.le_trans h.size b.size
  olds := h.olds
  os := b.os.trans h.os
  tape := b.tape.trans h.tape
  output := b.output.trans h.output

/-- The names with a text between each two. -/
def joinB (xs : List ByteArray) (sep : ByteArray) : ByteArray := ⟨(Lib.join (xs.map (·.data.toList)) sep.data.toList).toArray⟩
/-- How long all names are. -/
def sumB : List ByteArray → Nat
  | [] => 0
  | x :: r => x.size + sumB r
theorem sumB_append : ∀ a b : List ByteArray, sumB (a ++ b) = sumB a + sumB b
  | [], b => by simp [sumB]
  | x :: r, b => by simp [sumB, sumB_append r b, Nat.add_assoc]
theorem joinTail_len (sep : List UInt8) : ∀ r : List ByteArray, (Lib.joinTail sep (r.map (·.data.toList))).length = sumB r + r.length * sep.length
  | [] => by simp [Lib.joinTail, sumB]
  | x :: r => by
    have ih := joinTail_len sep r
    unfold Lib.joinTail at ih ⊢
    have e1 : x.data.toList.length = x.size := Array.length_toList
    rw [List.map_cons, List.map_cons, List.flatten_cons, List.length_append, List.length_append, ih, sumB, List.length_cons, e1, Nat.add_mul]
    omega
theorem joinB_size (xs : List ByteArray) (sep : ByteArray) : (joinB xs sep).size ≤ sumB xs + xs.length * sep.size := by
  show (Lib.join (xs.map (·.data.toList)) sep.data.toList).length ≤ _
  cases xs with
  | nil => rw [List.map_nil, Lib.join_nil]; exact Nat.zero_le _
  | cons x r =>
    have e1 : x.data.toList.length = x.size := Array.length_toList
    have e2 : sep.data.toList.length = sep.size := Array.length_toList
    rw [List.map_cons, Lib.join_cons, List.length_append, joinTail_len, sumB, List.length_cons, e1, e2, Nat.add_mul]
    omega
def specJoin : List AV → List Blk → Option (Prop × Ret)
  | [.sc (.ros xs), .sc (.s sep)], [] => some (xs.length ≤ 1000000000 ∧ (joinB xs sep).size ≤ 1000000000, ⟨.sc (.s (joinB xs sep)), []⟩)
  | _, _ => none

theorem cell_spot {w : World} {a : Addr} {v : Value} (h : w.cell? a = some v) : a = ⟨a.block, a.off, none⟩ := by
  obtain ⟨b, o, s⟩ := a
  unfold World.cell? at h
  cases s with
  | none => rfl
  | some s =>
    exfalso
    revert h
    split <;> simp

theorem known_join {P : Program} {G : Globs} {f : FuncId} (hf : entersB P f = true) (h0 : ∀ (a : Option Addr) (c : Nat) (sep : ByteArray) (w : World), Calls P f #[.slice a 0 c, .string sep] w fun e w' => e = .returned (.string ⟨#[]⟩) ∧ w' = w)
    (h1 : ∀ (bk o c : Nat) (xs : List ByteArray) (sep : ByteArray) (w : World) (hcells : ∀ (j : Nat) x, xs[j]? = some x → w.cell? ⟨bk, o + j, none⟩ = some (.string x)) (hbk : bk < w.heap.size) (hN : xs.length ≤ 140737488355328) (hcap : xs.length ≤ c)
      (hlen : (Lib.join (xs.map (·.data.toList)) sep.data.toList).length ≤ 140737488355328),
      Calls P f #[.slice (some ⟨bk, o, none⟩) xs.length c, .string sep] w fun e w' => e = .returned (.string ⟨(Lib.join (xs.map (·.data.toList)) sep.data.toList).toArray⟩) ∧ Go.RowKit.Below w.heap.size w w') : Known P G f ⟨0, 0, specJoin⟩ := by
  refine ⟨Nat.zero_le _, ?_⟩
  intro E w args ks Vs C r hP hG hks hkp hM hargs hsp hC
  simp only at hsp
  unfold specJoin at hsp
  split at hsp
  · rename_i xs sep
    cases hsp
    have hVs : ∃ V, Vs = #[V, .string sep] ∧ ScR E E.kp (.ros xs) V := by
      obtain ⟨l⟩ := Vs
      match l, hargs with
      | [a, b], ⟨h1, h2, _⟩ =>
        have e2 : b = .string sep := h2
        subst e2
        exact ⟨a, rfl, h1⟩
    obtain ⟨V, rfl, A, c, rfl, hle, hA⟩ := hVs
    refine .inl ⟨hf, ?_⟩
    cases xs with
    | nil =>
      refine (h0 A c sep w).mono fun e w' ⟨he, hw⟩ => ?_
      subst hw
      exact ⟨_, he, E, E.kp, .refl E, fun _ hj => absurd hj (Nat.not_lt_zero _), rfl, hM⟩
    | cons x xs =>
      obtain ⟨ad, rfl, ho, hc⟩ := hA (by simp)
      have hcw : ∀ j, j < (x :: xs).length → w.cell? (ad.add j) = some (.string ((x :: xs).getD j ⟨#[]⟩)) := by
        intro j hj
        rw [hM.oldCell (by rw [add_block]; exact ho)]
        exact hc j hj
      have hsp := cell_spot (a := ad) (v := .string x) (hcw 0 (by simp))
      have hlt : ad.block < w.heap.size := Nat.lt_of_lt_of_le (hM.olds _ (E.sub _ ho)) hM.size
      rw [hsp]
      refine (h1 ad.block ad.off c (x :: xs) sep w ?_ hlt (by have := hC.1; omega) hle (by have := hC.2; unfold joinB at this; have e : (ByteArray.mk (Lib.join ((x :: xs).map (·.data.toList)) sep.data.toList).toArray).size = (Lib.join ((x :: xs).map (·.data.toList)) sep.data.toList).length := rfl; rw [e] at this; omega)).mono fun e w' ⟨he, hb⟩ => ?_
      · intro j y hy
        have hj := (List.getElem?_eq_some_iff.1 hy).1
        have := hcw j hj
        rw [hsp, addr_add] at this
        rw [this, List.getD_eq_getElem?_getD, hy]
        rfl
      · exact ⟨_, he, E, E.kp, .refl E, fun _ hj => absurd hj (Nat.not_lt_zero _), rfl, hM.below hb⟩
  · cases hsp

end Go.Vm
