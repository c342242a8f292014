/- Parts are written as the document has it, behind what stands there. -/
import Derived.Test.YtclfmaifcelcpaaPl20
import Derived.Test.YtclfmaifcelcpaaPl21
import Derived.Test.YtclfmaifcelcpaaWk6
set_option linter.unusedVariables false
set_option linter.unusedSimpArgs false
namespace Go.Vm
open Go

theorem ba_eq {a b : ByteArray} (h : a.data.toList = b.data.toList) : a = b := by
  obtain ⟨⟨l⟩⟩ := a
  obtain ⟨⟨m⟩⟩ := b
  have : l = m := h
  rw [this]
theorem join_snoc (sep : List UInt8) : ∀ (l : List (List UInt8)) (x : List UInt8), l ≠ [] → Lib.join (l ++ [x]) sep = Lib.join l sep ++ sep ++ x
  | [], x, h => absurd rfl h
  | y :: r, x, _ => by
    rw [List.cons_append, Lib.join_cons, Lib.join_cons]
    unfold Lib.joinTail
    simp
theorem rNames_loop (p : List ByteArray) : ∀ k, k ≤ p.length → itr (FwrNamesl0 p) k (⟨#[]⟩ : ByteArray) = joinB (p.take k) (⟨#[44]⟩ : ByteArray) := by
  intro k
  induction k with
  | zero => intro _; rw [itr_zero]; rfl
  | succ k ih =>
    intro hk
    have hk' : k < p.length := hk
    rw [itr_succ, ih (by omega)]
    unfold FwrNamesl0
    have e : p.getD k ⟨#[]⟩ = p[k] := by rw [List.getD_eq_getElem?_getD, List.getElem?_eq_getElem hk']; rfl
    rw [e, List.take_succ_eq_append_getElem hk']
    apply ba_eq
    rw [ByteArray.data_append, Array.toList_append]
    show _ = Lib.join ((p.take k ++ [p[k]]).map (·.data.toList)) [44]
    rw [List.map_append, List.map_cons, List.map_nil]
    by_cases h0 : k = 0
    · subst h0
      rw [sel_f (decide_eq_false (by decide))]
      show (Lib.join [] [44]) ++ _ = Lib.join ([] ++ [_]) [44]
      rw [List.nil_append, Lib.join_one, Lib.join_nil, List.nil_append]
    · rw [sel_t (decide_eq_true (by omega)), ByteArray.data_append, Array.toList_append, join_snoc _ _ _ (by
        intro hn
        have := congrArg List.length hn
        rw [List.length_map, List.length_take, Nat.min_eq_left (by omega)] at this
        exact h0 this)]
      rfl
theorem rNames_at (p : List ByteArray) (h : (joinB p (⟨#[44]⟩ : ByteArray)).size < 4294967296) : FwrNames p = be4 (joinB p (⟨#[44]⟩ : ByteArray)).size ++ bytesI (joinB p (⟨#[44]⟩ : ByteArray)) ∧ FwrNamesn0 p = 4 + (joinB p (⟨#[44]⟩ : ByteArray)).size := by
  have hl := rNames_loop p p.length (Nat.le_refl _)
  rw [List.take_length] at hl
  unfold FwrNames FwrNamesn0
  rw [hl, rText_at _ h]
  exact ⟨rfl, rfl⟩
theorem part1_len {a : List Int} {n : Nat} (h : n = a.length) : part1 a n 0 n = a := part1_all h.symm
theorem take_all {a : List Int} {n : Nat} (h : n = a.length) : (a.drop 0).take n = a := by rw [List.drop_zero, h, List.take_length]

theorem loop_small {p2 : List ByteArray} (h : p2.length ≤ 140737488351232 ∧ ∀ y ∈ p2, y.size ≤ 140737488351232) (hs : fstB (FwWireWritess0 p2) p2.length = p2.length) :
    p2.length + sumB p2 ≤ 2000 := by
  have hS : ∀ j, j < p2.length → FwWireWritess0 p2 j = false := by
    have : ∀ n, fstB (FwWireWritess0 p2) n = n → ∀ j, j < n → FwWireWritess0 p2 j = false := by
      intro n
      induction n with
      | zero => intro _ j hj; exact absurd hj (Nat.not_lt_zero j)
      | succ n ih =>
        intro h j hj
        rw [fstB] at h
        have hle := fst_le (FwWireWritess0 p2) n
        cases hb : Nat.blt (fstB (FwWireWritess0 p2) n) n with
        | true => rw [hb, cond_true] at h; omega
        | false =>
          rw [hb, cond_false] at h
          have hn : fstB (FwWireWritess0 p2) n = n := by
            rcases Nat.lt_or_ge (fstB (FwWireWritess0 p2) n) n with hq | hq
            · rw [blt_true hq] at hb; cases hb
            · omega
          cases hq : FwWireWritess0 p2 n with
          | true => rw [hq, cond_true] at h; omega
          | false =>
            by_cases hjn : j = n
            · rw [hjn]; exact hq
            · exact ih hn j (by omega)
    exact this _ hs
  have key : ∀ k, k ≤ p2.length → itr (FwWireWritesl0 p2) k 0 = ((k + sumB (p2.take k) : Nat) : Int) ∧ itr (FwWireWritesl0 p2) k 0 ≤ 2000 := by
    intro k
    induction k with
    | zero => intro _; rw [itr_zero]; exact ⟨rfl, by decide⟩
    | succ k ih =>
      intro hk
      have h1 := hS k hk
      unfold FwWireWritess0 at h1
      have h2 : decide (iAdd .i64 (itr (FwWireWritesl0 p2) k 0) ((1 + (p2.getD k (⟨#[]⟩ : ByteArray)).size : Nat) : Int) > 2000) = false := by
        cases hq : decide (iAdd .i64 (itr (FwWireWritesl0 p2) k 0) ((1 + (p2.getD k (⟨#[]⟩ : ByteArray)).size : Nat) : Int) > 2000) with
        | true => rw [hq, sel_true] at h1; cases h1
        | false => rfl
      rw [itr_succ]
      exact writes_next h hk (ih (by omega)) h2
  have := key p2.length (Nat.le_refl _)
  rw [List.take_length] at this
  omega

theorem writes_true {p0 : List Int} {p1 : ByteArray} {p2 : List ByteArray} (hd : Dg p0) (h : p0.length ≤ 140737488351232 ∧ p1.size ≤ 140737488351232 ∧ p2.length ≤ 140737488351232 ∧ ∀ y ∈ p2, y.size ≤ 140737488351232) : FwWireWrites p0 p1 p2 = true := by
  unfold FwWireWrites
  rw [fit_true]
  show sel false _ _ = _
  rw [sel_false]
  have hle := fst_le (FwWireWritess0 p2) p2.length
  rcases Nat.lt_or_ge (fstB (FwWireWritess0 p2) p2.length) p2.length with hs | hs
  · rw [blt_true hs, sel_true]
  · have hs' : fstB (FwWireWritess0 p2) p2.length = p2.length := by omega
    rw [hs', blt_self, sel_false]
    have hsm := loop_small h.2.2 hs'
    cases hn : decide (((p0.length + p1.size : Nat) : Int) > 2000)
    · have hn' := of_decide_eq_false hn
      rw [sel_false]
      have hj := joinB_size p2 (⟨#[44]⟩ : ByteArray)
      rw [show (⟨#[44]⟩ : ByteArray).size = 1 from rfl] at hj
      have hb := bytesI_length p1
      have e0 : part1 (bytesI p1) p1.size 0 p1.size = bytesI p1 := part1_len hb.symm
      have w1 : FwwText p0.length p0 p1 = p0 ++ be4 p1.size ++ bytesI p1 := text_writes _ _ _ (by omega)
      have w2 := names_writes ((p0.length + 4) + p1.size) (FwwText p0.length p0 p1) p2 (by omega)
      obtain ⟨w3, w4⟩ := into_writes (FwwNamesn0 ((p0.length + 4) + p1.size) (FwwText p0.length p0 p1) p2) (FwwNames ((p0.length + 4) + p1.size) (FwwText p0.length p0 p1) p2) (bytesI p1) (by omega)
      have hD : Dg (bytesI p1) := dg_bytesI p1
      obtain ⟨r1, r2⟩ := rInt_at hD (by omega)
      obtain ⟨r3, r4⟩ := rNames_at p2 (by omega)
      have r5 : FwrText p1 = be4 p1.size ++ bytesI p1 := rText_at p1 (by omega)
      have r6 : FwrU32 ((p0.length : Nat) : Int) = be4 p0.length := rU32_at _ (by omega)
      have u : ∀ k xs, FwwU32 k xs (IntKind.wrap .u32 ((p0.length : Nat) : Int)) = xs ++ be4 p0.length := fun k xs => u32o_at k xs _ (by omega)
      rw [e0, u, r1, r2, r3, r4, r5, r6, w4]
      have l4 : ∀ n, (be4 n).length = 4 := fun _ => rfl
      rw [part1_len (a := be4 p1.size ++ bytesI p1) (by rw [List.length_append, l4, hb]), part1_len (a := be4 (joinB p2 (⟨#[44]⟩ : ByteArray)).size ++ bytesI (joinB p2 (⟨#[44]⟩ : ByteArray))) (by rw [List.length_append, l4, bytesI_length]), part1_len (a := enc (bytesI p1)) rfl, part1_len (a := be4 p0.length) (n := 4) rfl, part1_len (a := [(IntKind.wrap .u8 ((p1.size % 2 : Nat) : Int))]) (n := 1) rfl]
      have ej : ∀ q, FwrJoinn0 q = (FwrJoin q).length := fun q => rfl
      rw [ej, rJoin_is]
      have hflag : ∀ k xs, FwwFlag k xs (((p1.size % 2 : Nat) : Int) == 1) = xs ++ [(IntKind.wrap .u8 ((p1.size % 2 : Nat) : Int))] := by
        intro k xs
        unfold FwwFlag
        rcases Nat.mod_two_eq_zero_or_one p1.size with hm | hm <;> rw [hm] <;> rfl
      rw [hflag, w3, w2, w1]
      have fin : p0 ++ be4 p1.size ++ bytesI p1 ++ be4 (joinB p2 (⟨#[44]⟩ : ByteArray)).size ++ bytesI (joinB p2 (⟨#[44]⟩ : ByteArray)) ++ enc (bytesI p1) ++ [(IntKind.wrap .u8 ((p1.size % 2 : Nat) : Int))] ++ be4 p0.length =
          [p0, be4 p1.size ++ bytesI p1, be4 (joinB p2 (⟨#[44]⟩ : ByteArray)).size ++ bytesI (joinB p2 (⟨#[44]⟩ : ByteArray)), enc (bytesI p1), [(IntKind.wrap .u8 ((p1.size % 2 : Nat) : Int))], be4 p0.length].flatten := by
        simp only [List.flatten_cons, List.flatten_nil, List.append_nil, List.append_assoc]
      rw [take_all (a := _ ++ be4 p0.length) ?_, take_all rfl, fin]
      · exact strEq_self _
      · unfold FwwNamesn0
        simp only [List.length_append, l4, hb, bytesI_length, List.length_cons, List.length_nil]
    · rw [sel_true]

end Go.Vm
