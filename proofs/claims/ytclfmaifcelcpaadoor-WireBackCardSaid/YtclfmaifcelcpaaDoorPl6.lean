/- Lists of names: the code's and the document's reader cut a text at its commas into the same parts. -/
import Derived.Test.YtclfmaifcelcpaaDoorPl5
set_option linter.unusedVariables false
set_option linter.unusedSimpArgs false
namespace Go.Vm
open Go

/-- The parts between commas. -/
def spl : List UInt8 → List (List UInt8)
  | [] => [[]]
  | c :: r => if c = 44 then [] :: spl r else match spl r with
    | h :: t => (c :: h) :: t
    | [] => [[c]]
def ba (l : List UInt8) : ByteArray := ⟨l.toArray⟩
def splS (s : ByteArray) : List ByteArray := (spl s.data.toList).map ba
def addLast (L : List (List UInt8)) (c : UInt8) : List (List UInt8) := L.set (L.length - 1) (L.getD (L.length - 1) [] ++ [c])

theorem spl_ne : ∀ l, spl l ≠ []
  | [] => by simp [spl]
  | c :: r => by
    unfold spl
    split
    · simp
    · cases h : spl r with
      | nil => simp
      | cons a t => simp
theorem addLast_cons (h : List UInt8) {L : List (List UInt8)} (c : UInt8) (hL : L ≠ []) : addLast (h :: L) c = h :: addLast L c := by
  cases L with
  | nil => exact absurd rfl hL
  | cons a t => rfl
theorem spl_snoc (c : UInt8) : ∀ l, spl (l ++ [c]) = if c = 44 then spl l ++ [[]] else addLast (spl l) c
  | [] => by
    show spl [c] = _
    unfold spl
    split
    · rfl
    · rfl
  | a :: l => by
    have ih := spl_snoc c l
    have hne := spl_ne l
    rw [List.cons_append]
    by_cases ha : a = 44
    · have e1 : spl (a :: (l ++ [c])) = [] :: spl (l ++ [c]) := by rw [spl, if_pos ha]
      have e2 : spl (a :: l) = [] :: spl l := by rw [spl, if_pos ha]
      rw [e1, e2, ih]
      split
      · rfl
      · rw [addLast_cons _ _ hne]
    · cases hs : spl l with
      | nil => exact absurd hs hne
      | cons h t =>
        have e2 : spl (a :: l) = (a :: h) :: t := by rw [spl, if_neg ha, hs]
        rw [e2]
        rw [hs] at ih
        by_cases hc : c = 44
        · rw [if_pos hc] at ih ⊢
          rw [spl, if_neg ha, ih]
          rfl
        · rw [if_neg hc] at ih ⊢
          rw [spl, if_neg ha, ih]
          cases t with
          | nil => rfl
          | cons b t =>
            rw [addLast_cons (L := b :: t) h c (by simp), addLast_cons (L := b :: t) (a :: h) c (by simp)]

theorem ba_data (s : ByteArray) : ba s.data.toList = s := by
  obtain ⟨⟨l⟩⟩ := s
  rfl
theorem data_ba (l : List UInt8) : (ba l).data.toList = l := rfl
theorem ba_append (a b : List UInt8) : ba a ++ ba b = ba (a ++ b) := by
  apply ByteArray.ext
  rw [ByteArray.data_append]
  unfold ba
  simp
theorem ba_extract (l : List UInt8) (a b : Nat) : (ba l).extract a b = ba ((l.drop a).take (b - a)) := by
  apply ByteArray.ext
  rw [ByteArray.data_extract]
  unfold ba
  simp [List.extract_eq_take_drop]
theorem ba_size (l : List UInt8) : (ba l).size = l.length := rfl

/-! ### the document's -/
theorem byteAt_44 (l : List UInt8) (k : Nat) (h : k < l.length) : ((byteAt (ba l) ((k : Nat) : Int) : Int) == 44) = decide (l[k] = 44) := by
  have : byteAt (ba l) ((k : Nat) : Int) = (l[k].toNat : Int) := by
    unfold byteAt bytesI ba
    rw [Int.toNat_natCast, List.getD_eq_getElem?_getD, List.getElem?_map, List.getElem?_eq_getElem h]
    rfl
  rw [this]
  by_cases hk : l[k] = 44
  · rw [decide_eq_true hk, hk]; rfl
  · rw [decide_eq_false hk, beq_eq_false_iff_ne]
    intro he
    apply hk
    have : l[k].toNat = (44 : UInt8).toNat := by show _ = 44; omega
    exact UInt8.toNat_inj.1 this
theorem cnames_loop {p : List Int} {q : Int} {b : Bool} {l : List UInt8} (ht : FwcText p q b = ba l) : ∀ k, k ≤ l.length → itr (FwcNamesl0 p q b) k [(⟨#[]⟩ : ByteArray)] = (spl (l.take k)).map ba := by
  intro k
  induction k with
  | zero => intro _; rw [itr_zero]; rfl
  | succ k ih =>
    intro hk
    have hk' : k < l.length := hk
    rw [itr_succ, ih (by omega), List.take_succ_eq_append_getElem hk', spl_snoc]
    unfold FwcNamesl0
    rw [ht, byteAt_44 l k hk']
    by_cases hc : l[k] = 44
    · rw [decide_eq_true hc, sel_true, if_pos hc, List.map_append]
      rfl
    · rw [decide_eq_false hc, sel_false, if_neg hc]
      unfold addLast
      rw [List.map_set, List.length_map]
      congr 1
      rw [ba_extract, show k + 1 - k = 1 by omega]
      have e1 : (l.drop k).take 1 = [l[k]] := by
        rw [List.drop_eq_getElem_cons hk']; rfl
      have e2 : ((spl (l.take k)).map ba).getD ((spl (l.take k)).length - 1) (⟨#[]⟩ : ByteArray) = ba ((spl (l.take k)).getD ((spl (l.take k)).length - 1) []) := by
        rw [List.getD_eq_getElem?_getD, List.getD_eq_getElem?_getD, List.getElem?_map]
        cases (spl (l.take k))[(spl (l.take k)).length - 1]? <;> rfl
      rw [e1, e2, ba_append]
theorem cnames_all {p : List Int} {q : Int} {b : Bool} : itr (FwcNamesl0 p q b) (FwcText p q b).size [(⟨#[]⟩ : ByteArray)] = splS (FwcText p q b) := by
  have := cnames_loop (p := p) (q := q) (b := b) (l := (FwcText p q b).data.toList) (ba_data _).symm (FwcText p q b).size (by rw [Array.length_toList]; exact Nat.le_refl _)
  rw [this, List.take_of_length_le (by rw [Array.length_toList]; exact Nat.le_refl _)]
  rfl

/-! ### the code's -/
theorem idx_split : ∀ (l : List UInt8), 0 < l.count 44 → ∃ u v, l = u ++ 44 :: v ∧ Lib.indexByte l 44 = (u.length : Int) ∧ spl l = u :: spl v ∧ l.count 44 = v.count 44 + 1
  | [], h => by simp at h
  | c :: r, h => by
    by_cases hc : c = 44
    · subst hc
      refine ⟨[], r, rfl, rfl, ?_, by simp⟩
      rw [spl, if_pos rfl]
    · have hb : (c == 44) = false := by simpa using hc
      rw [List.count_cons, hb] at h
      obtain ⟨u, v, h1, h2, h3, h4⟩ := idx_split r (by simpa using h)
      refine ⟨c :: u, v, by rw [h1]; rfl, ?_, ?_, ?_⟩
      · unfold Lib.indexByte
        rw [hb, h2]
        have : ((u.length : Int) == -1) = false := by rw [beq_eq_false_iff_ne]; omega
        rw [this]
        simp
      · rw [spl, if_neg hc, h3]
      · rw [List.count_cons, hb, h4]; rfl
theorem spl_one : ∀ (l : List UInt8), l.count 44 = 0 → spl l = [l]
  | [], _ => rfl
  | c :: r, h => by
    have hc : c ≠ 44 := fun e => by subst e; simp at h
    have hb : (c == 44) = false := by simpa using hc
    rw [List.count_cons, hb] at h
    rw [spl, if_neg hc, spl_one r (by simpa using h)]
theorem spl_len : ∀ (l : List UInt8), (spl l).length = l.count 44 + 1
  | [] => rfl
  | c :: r => by
    by_cases hc : c = 44
    · subst hc
      rw [spl, if_pos rfl, List.length_cons, spl_len r, List.count_cons]
      simp
    · have hb : (c == 44) = false := by simpa using hc
      have ih := spl_len r
      cases hs : spl r with
      | nil => exact absurd hs (spl_ne r)
      | cons h t =>
        rw [spl, if_neg hc, hs, List.count_cons, hb]
        rw [hs] at ih
        simpa using ih
theorem FwIndex_eq (l : List UInt8) : FwIndex (ba l) = Lib.indexByte l 44 := by
  unfold FwIndex FwslIndex
  cases h : strEq (⟨#[44]⟩ : ByteArray) (ba l) with
  | false => rfl
  | true =>
    have := congrArg (fun s : ByteArray => s.data.toList) (strEq_eq h)
    have hl : l = [44] := this.symm
    rw [hl]
    rfl
theorem FwCount_eq (l : List UInt8) : FwCount (ba l) = l.count 44 := rfl

theorem split_loop (l : List UInt8) (hl : l.length ≤ 1000000000) : ∀ k, k ≤ l.count 44 → ∃ P rest, itr FwgenSplitl0 k (ba l, List.replicate (l.count 44 + 1) (⟨#[]⟩ : ByteArray)) = (ba rest, P.map ba ++ List.replicate (l.count 44 + 1 - k) (⟨#[]⟩ : ByteArray)) ∧
    P.length = k ∧ spl l = P ++ spl rest ∧ rest.count 44 + k = l.count 44 ∧ rest.length ≤ 1000000000 := by
  intro k
  induction k with
  | zero => intro _; exact ⟨[], l, by rw [itr_zero]; rfl, rfl, rfl, rfl, hl⟩
  | succ k ih =>
    intro hk
    obtain ⟨P, rest, h1, h2, h3, h4, hr⟩ := ih (by omega)
    obtain ⟨u, v, h5, h6, h7, h8⟩ := idx_split rest (by omega)
    refine ⟨P ++ [u], v, ?_, by simp [h2], by rw [h3, h7]; simp, by omega, ?_⟩
    rotate_left
    · have := congrArg List.length h5
      simp at this
      omega
    rw [itr_succ, h1]
    unfold FwgenSplitl0
    simp only
    rw [FwIndex_eq, h6]
    have hlen : rest.length = u.length + 1 + v.length := by rw [h5]; simp; omega
    have hlr : rest.length ≤ 1000000000 := hr
    have e1 : iAdd .i64 (u.length : Int) 1 = ((u.length + 1 : Nat) : Int) := by rw [iAdd_i64 (by omega) (by omega)]; omega
    have e2 : iAdd .i64 (u.length : Int) 0 = ((u.length : Nat) : Int) := by rw [iAdd_i64 (by omega) (by omega)]; omega
    rw [e1, e2, Int.toNat_natCast, Int.toNat_natCast, ba_extract, ba_extract, ba_size]
    refine Prod.ext ?_ ?_
    · show ba _ = ba v
      congr 1
      rw [h5, show u ++ 44 :: v = (u ++ [44]) ++ v by simp, List.drop_left' (by simp), List.take_of_length_le (by simp; omega)]
    · show ((P.map ba ++ List.replicate (l.count 44 + 1 - k) (⟨#[]⟩ : ByteArray)).set k _) = _
      have e3 : (rest.drop 0).take (u.length - 0) = u := by rw [h5]; simp
      rw [e3, List.set_append_right _ _ (by simp [h2]), List.length_map, h2, Nat.sub_self, List.map_append, List.append_assoc]
      congr 1
      rw [show l.count 44 + 1 - k = (l.count 44 + 1 - (k + 1)) + 1 by omega, List.replicate_succ]
      rfl

theorem split_all (s : ByteArray) (hs : s.size ≤ 1000000000) : partV (FwSplit s) 0 (FwgenSplitn0 s) = splS s ∧ FwgenSplitn0 s = (splS s).length := by
  obtain ⟨l, rfl⟩ : ∃ l, s = ba l := ⟨s.data.toList, (ba_data s).symm⟩
  have hl : l.length ≤ 1000000000 := hs
  have hc : l.count 44 ≤ l.length := List.count_le_length
  have hN : min (FwCount (ba l) + 1) ((ba l).size + 1) = l.count 44 + 1 := by rw [FwCount_eq, ba_size]; omega
  have hst : fstB (FwgenSplits0 (ba l)) (l.count 44) = l.count 44 := by
    refine fst_none fun j hj => ?_
    obtain ⟨P, rest, h1, h2, h3, h4, hr⟩ := split_loop l hl j (by omega)
    obtain ⟨u, v, h5, h6, h7, h8⟩ := idx_split rest (by omega)
    unfold FwgenSplits0
    rw [hN, h1]
    simp only
    rw [FwIndex_eq, h6, decide_eq_false (by omega), sel_false]
  obtain ⟨P, rest, h1, h2, h3, h4, hr⟩ := split_loop l hl (l.count 44) (Nat.le_refl _)
  unfold FwSplit FwgenSplit FwgenSplitn0
  rw [hN, Nat.add_sub_cancel, hst, blt_self, sel_false, sel_false, h1]
  have hsp : splS (ba l) = P.map ba ++ [ba rest] := by
    show (spl l).map ba = _
    rw [h3, spl_one rest (by omega), List.map_append]
    rfl
  refine ⟨?_, ?_⟩
  · rw [partV_eq, List.drop_zero, hsp]
    simp only
    rw [show l.count 44 + 1 - l.count 44 = 1 by omega, List.set_append_right _ _ (by simp [h2]), List.length_map, h2, Nat.sub_self]
    rw [List.take_of_length_le (by simp [h2])]
    rfl
  · rw [hsp, List.length_append, List.length_map, h2]
    rfl

theorem fst_congr {S S' : Nat → Bool} : ∀ {n : Nat}, (∀ j, j < n → S j = S' j) → fstB S n = fstB S' n
  | 0, _ => rfl
  | n + 1, h => by
    rw [fstB, fstB, fst_congr (fun j hj => h j (by omega)), h n (by omega)]

/-- Is some name empty? -/
def noName (L : List ByteArray) : Bool := Nat.blt (fstB (fun k => sel (strEq (L.getD k (⟨#[]⟩ : ByteArray)) (⟨#[]⟩ : ByteArray)) true false) L.length) L.length
def namesT (T : ByteArray) : Option (List ByteArray) := if strEq T (⟨#[]⟩ : ByteArray) then some [] else if noName (splS T) then none else some (splS T)
def namesV (st : Rd) : List ByteArray := (namesT (bytesOf (textV st))).getD []
def namesN (st : Rd) : Rd := sel (namesT (bytesOf (textV st))).isSome (textN st) none

theorem sel_if {α : Type} (b : Bool) (x y : α) : sel b x y = if b then x else y := by cases b <;> rfl
theorem names_at {st : Rd} (h : RdOk st) : FwNames (rb st) (rbad st) = namesV st ∧ FwNames_1 (rb st) (rbad st) = rb (namesN st) ∧ FwNames_2 (rb st) (rbad st) = rbad (namesN st) := by
  obtain ⟨h1, h2, h3⟩ := text_at h
  have hn := h.textN
  have hz : (bytesOf (textV st)).size ≤ 1000000000 := by rw [size_bytesOf]; have := h.textV.2; omega
  obtain ⟨s1, s2⟩ := split_all (bytesOf (textV st)) hz
  have hS : fstB (FwNamess0 (rb st) (rbad st)) (FwgenSplitn0 (FwText (rb st) (rbad st))) = fstB (fun k => sel (strEq ((splS (bytesOf (textV st))).getD k (⟨#[]⟩ : ByteArray)) (⟨#[]⟩ : ByteArray)) true false) (splS (bytesOf (textV st))).length := by
    rw [h1, s2]
    refine fst_congr fun j hj => ?_
    unfold FwNamess0
    rw [h1]
    have : (FwSplit (bytesOf (textV st))).getD j (⟨#[]⟩ : ByteArray) = (splS (bytesOf (textV st))).getD j (⟨#[]⟩ : ByteArray) := by
      rw [← s1, partV_eq, List.drop_zero, List.getD_eq_getElem?_getD, List.getD_eq_getElem?_getD, List.getElem?_take, if_pos (by rw [s2]; exact hj)]
    rw [this]
  unfold FwNames FwNames_1 FwNames_2 namesV namesN namesT
  rw [hS, h1, h2, h3, s1, s2]
  obtain ⟨_, t2, t3⟩ := take_at (textN st) 1073741824 (by decide)
  rw [nx_none hn (n := (1073741824 : Int).toNat) (by decide)] at t2 t3
  rw [t2, t3]
  show sel _ _ (sel (noName (splS (bytesOf (textV st)))) _ _) = _ ∧ sel _ _ (sel (noName (splS (bytesOf (textV st)))) _ _) = _ ∧ sel _ _ (sel (noName (splS (bytesOf (textV st)))) _ _) = _
  cases strEq (bytesOf (textV st)) (⟨#[]⟩ : ByteArray) with
  | true => exact ⟨rfl, rfl, rfl⟩
  | false =>
    cases noName (splS (bytesOf (textV st))) <;> exact ⟨rfl, rfl, rfl⟩
theorem cnames_at {p : List Int} {k : Int} (b : Bool) (hd : Dg p) (h : CurOk p k) : FwcNames p k b = namesV (cst p k b) ∧ cst p (FwcNames_1 p k b) (FwcNames_2 p k b) = namesN (cst p k b) := by
  obtain ⟨h1, h2⟩ := ctext_at b hd h
  have hS : FwcNamess1 p k b = fun j => sel (strEq ((splS (bytesOf (textV (cst p k b)))).getD j (⟨#[]⟩ : ByteArray)) (⟨#[]⟩ : ByteArray)) true false := by
    funext j
    unfold FwcNamess1
    rw [cnames_all, h1]
  unfold FwcNames FwcNames_1 FwcNames_2 namesV namesN namesT
  rw [hS, cnames_all, ← h2, h1, partV_all]
  show sel _ _ (sel (noName (splS (bytesOf (textV (cst p k b))))) _ _) = _ ∧ cst p _ (sel _ _ (sel (noName (splS (bytesOf (textV (cst p k b))))) _ _)) = _
  cases strEq (bytesOf (textV (cst p k b))) (⟨#[]⟩ : ByteArray) with
  | true => exact ⟨rfl, rfl⟩
  | false =>
    cases noName (splS (bytesOf (textV (cst p k b)))) <;> exact ⟨rfl, rfl⟩

end Go.Vm
