/- Readers in plain words: the code's and the document's read the same. -/
import Derived.Test.YtclfmaifcelcpaaDoorPl1
set_option linter.unusedVariables false
set_option linter.unusedSimpArgs false
namespace Go.Vm
open Go

/-- What is left to read; none: there was too little. -/
abbrev Rd := Option (List Int)
def tkO : Rd → Nat → List Int
  | some s, n => if n ≤ s.length then s.take n else []
  | none, _ => []
def nxO : Rd → Nat → Rd
  | some s, n => if n ≤ s.length then some (s.drop n) else none
  | none, _ => none
theorem tkO_some (s : List Int) (n : Nat) : tkO (some s) n = if n ≤ s.length then s.take n else [] := rfl
theorem nxO_some (s : List Int) (n : Nat) : nxO (some s) n = if n ≤ s.length then some (s.drop n) else none := rfl
def rb : Rd → List Int
  | some s => s
  | none => []
def rbad : Rd → Bool
  | some _ => false
  | none => true
def RdOk (st : Rd) : Prop := ∀ s, st = some s → Dg s ∧ s.length ≤ 1000000000
theorem RdOk.nx {st : Rd} (h : RdOk st) (n : Nat) : RdOk (nxO st n) := by
  intro s hs
  cases st with
  | none => cases hs
  | some t =>
    rw [nxO_some] at hs
    split at hs
    · cases hs
      exact ⟨dg_drop _ (h t rfl).1, by rw [List.length_drop]; have := (h t rfl).2; omega⟩
    · cases hs
theorem RdOk.tk {st : Rd} (h : RdOk st) (n : Nat) : Dg (tkO st n) := by
  cases st with
  | none => intro x hx; cases hx
  | some t =>
    rw [tkO_some]
    split
    · exact dg_take _ (h t rfl).1
    · intro x hx; cases hx
theorem tk_len (st : Rd) (n : Nat) : (tkO st n).length = n ∨ tkO st n = [] := by
  cases st with
  | none => exact .inr rfl
  | some t =>
    rw [tkO_some]
    split
    · rw [List.length_take]; exact .inl (by omega)
    · exact .inr rfl
theorem tk_le (st : Rd) (n : Nat) : (tkO st n).length ≤ n := by
  rcases tk_len st n with h | h
  · omega
  · rw [h]; exact Nat.zero_le _
theorem nx_none {st : Rd} (h : RdOk st) {n : Nat} (hn : 1000000000 < n) : nxO st n = none := by
  cases st with
  | none => rfl
  | some s =>
    have := (h s rfl).2
    rw [nxO_some, if_neg (by omega)]
theorem tk_none {st : Rd} (h : RdOk st) {n : Nat} (hn : 1000000000 < n) : tkO st n = [] := by
  cases st with
  | none => rfl
  | some s =>
    have := (h s rfl).2
    rw [tkO_some, if_neg (by omega)]

/-- The numbers that four bytes are. -/
def val4 : List Int → Nat
  | [a, b, c, d] => a.toNat * 16777216 + b.toNat * 65536 + c.toNat * 256 + d.toNat
  | _ => 0
def u32V (st : Rd) : Nat := val4 (tkO st 4)
def byteV (st : Rd) : Int := (tkO st 1).getD 0 0
def textV (st : Rd) : List Int := if u32V st > 16384 then [] else tkO (nxO st 4) (u32V st)
def textN (st : Rd) : Rd := if u32V st > 16384 then none else nxO (nxO st 4) (u32V st)
/-- Is it no number as it is written? -/
def intBad (x : List Int) : Bool := decide (x.getD 0 0 ≥ 128) || (decide (x.length > 0) && x.getD 0 0 == 0 && (x.length == 1 || decide (x.getD 1 0 < 128)))
def intV (st : Rd) : List Int := if intBad (textV st) then [] else if (textV st).getD 0 1 = 0 then (textV st).drop 1 else textV st
def intN (st : Rd) : Rd := if intBad (textV st) then none else textN st

theorem val4_lt {x : List Int} (h : Dg x) : val4 x < 4294967296 := by
  unfold val4
  split
  · rename_i a b c d
    have ha := h a (by simp)
    have hb := h b (by simp)
    have hc := h c (by simp)
    have hd := h d (by simp)
    omega
  · decide
theorem u32V_lt {st : Rd} (h : RdOk st) : u32V st < 4294967296 := val4_lt (h.tk 4)
theorem RdOk.textV {st : Rd} (h : RdOk st) : Dg (textV st) ∧ (textV st).length ≤ 16384 := by
  unfold Vm.textV
  split
  · exact ⟨fun x hx => (by cases hx), Nat.zero_le _⟩
  · exact ⟨(h.nx 4).tk _, Nat.le_trans (tk_le _ _) (by omega)⟩
theorem RdOk.textN {st : Rd} (h : RdOk st) : RdOk (textN st) := by
  unfold Vm.textN
  split
  · intro s hs; cases hs
  · exact (h.nx 4).nx _

/-! ### the code's -/
theorem take_at (st : Rd) (n : Int) (h : 0 ≤ n) : FwtakeF (rb st) (rbad st) n = tkO st n.toNat ∧ FwtakeF_1 (rb st) (rbad st) n = rb (nxO st n.toNat) ∧ FwtakeF_2 (rb st) (rbad st) n = rbad (nxO st n.toNat) := by
  unfold FwtakeF FwtakeF_1 FwtakeF_2
  cases st with
  | none => exact ⟨rfl, rfl, rfl⟩
  | some s =>
    rw [tkO_some, nxO_some]
    show sel false _ _ = _ ∧ sel false _ _ = _ ∧ sel false _ _ = _
    rw [sel_false, sel_false, sel_false]
    show sel (decide (n > (s.length : Int))) _ _ = _ ∧ sel (decide (n > (s.length : Int))) _ _ = _ ∧ sel (decide (n > (s.length : Int))) _ _ = _
    by_cases hn : n.toNat ≤ s.length
    · rw [decide_eq_false (show ¬ n > (s.length : Int) by omega), sel_false, sel_false, sel_false, if_pos hn, if_pos hn]
      refine ⟨rfl, ?_, rfl⟩
      show (s.drop n.toNat).take (s.length - n.toNat) = _
      rw [List.take_of_length_le (by rw [List.length_drop]; exact Nat.le_refl _)]
      rfl
    · rw [decide_eq_true (show n > (s.length : Int) by omega), sel_true, sel_true, sel_true, if_neg hn, if_neg hn]
      exact ⟨rfl, rfl, rfl⟩
theorem takeOk_at (s : List Int) (b : Bool) (n : Int) : FwtakeOk s b n = s.take n.toNat ∧ FwtakeOk_1 s b n = s.drop n.toNat := by
  unfold FwtakeOk FwtakeOk_1
  refine ⟨rfl, ?_⟩
  rw [List.take_of_length_le (by rw [List.length_drop]; exact Nat.le_refl _)]
theorem byte_at (st : Rd) : FwByte (rb st) (rbad st) = byteV st ∧ FwByte_1 (rb st) (rbad st) = rb (nxO st 1) ∧ FwByte_2 (rb st) (rbad st) = rbad (nxO st 1) := by
  unfold FwByte FwByte_1 FwByte_2 byteV
  cases st with
  | none => exact ⟨rfl, rfl, rfl⟩
  | some s =>
    rw [tkO_some, nxO_some]
    show sel false _ _ = _ ∧ sel false _ _ = _ ∧ sel false _ _ = _
    rw [sel_false, sel_false, sel_false]
    show sel (decide ((1 : Int) > (s.length : Int))) _ _ = _ ∧ sel (decide ((1 : Int) > (s.length : Int))) _ _ = _ ∧ sel (decide ((1 : Int) > (s.length : Int))) _ _ = _
    by_cases hn : 1 ≤ s.length
    · rw [decide_eq_false (show ¬ (1 : Int) > (s.length : Int) by omega), sel_false, sel_false, sel_false, if_pos hn, if_pos hn]
      exact ⟨by show (FwtakeOk s false 1).getD 0 0 = _; rw [(takeOk_at s false 1).1]; rfl, (takeOk_at s false 1).2, rfl⟩
    · rw [decide_eq_true (show (1 : Int) > (s.length : Int) by omega), sel_true, sel_true, sel_true, if_neg hn, if_neg hn]
      exact ⟨rfl, rfl, rfl⟩
theorem flag_at (st : Rd) : FwFlag (rb st) (rbad st) = (byteV st != 0) ∧ FwFlag_1 (rb st) (rbad st) = rb (nxO st 1) ∧ FwFlag_2 (rb st) (rbad st) = rbad (nxO st 1) := by
  obtain ⟨h1, h2, h3⟩ := byte_at st
  exact ⟨by unfold FwFlag; rw [h1], h2, h3⟩

theorem or8' (z : Nat) {x : Int} (hz : z < 16777216) (hx : 0 ≤ x ∧ x < 256) : iOr .u32 (iShl .u32 (z : Int) 8) (IntKind.wrap .u32 x) = ((z * 256 + x.toNat : Nat) : Int) := by
  have := or8 z x.toNat hz (by omega)
  rw [show ((x.toNat : Nat) : Int) = x by omega] at this
  exact this
theorem u32_at {st : Rd} (h : RdOk st) : FwU32 (rb st) (rbad st) = (u32V st : Int) ∧ FwU32_1 (rb st) (rbad st) = rb (nxO st 4) ∧ FwU32_2 (rb st) (rbad st) = rbad (nxO st 4) := by
  obtain ⟨h1, h2, h3⟩ := take_at st 4 (by decide)
  refine ⟨?_, h2, h3⟩
  have hd := h.tk 4
  have h1' : FwtakeF (rb st) (rbad st) 4 = tkO st 4 := h1
  have f0 : ∀ k z, FwU32l0 (rb st) (rbad st) k z = iOr .u32 (iShl .u32 z 8) (IntKind.wrap .u32 ((tkO st 4).getD k 0)) := fun k z => by unfold FwU32l0; rw [h1']
  unfold FwU32 u32V
  rw [h1']
  rcases tk_len st 4 with hl | hl
  · generalize tkO st 4 = x at *
    match x, hl with
    | [a, b, c, d], _ =>
      have ha := hd a (by simp)
      have hb := hd b (by simp)
      have hc := hd c (by simp)
      have hd' := hd d (by simp)
      show itr _ 4 0 = _
      rw [itr_succ, itr_succ, itr_succ, itr_succ, itr_zero, f0, f0, f0, f0]
      show iOr .u32 (iShl .u32 (iOr .u32 (iShl .u32 (iOr .u32 (iShl .u32 (iOr .u32 (iShl .u32 ((0 : Nat) : Int) 8) (IntKind.wrap .u32 a)) 8) (IntKind.wrap .u32 b)) 8) (IntKind.wrap .u32 c)) 8) (IntKind.wrap .u32 d) = _
      rw [or8' _ (by omega) ha, or8' _ (by omega) hb, or8' _ (by omega) hc, or8' _ (by omega) hd']
      show _ = ((a.toNat * 16777216 + b.toNat * 65536 + c.toNat * 256 + d.toNat : Nat) : Int)
      omega
  · rw [hl]
    show itr _ 0 0 = _
    rw [itr_zero]
    rfl
theorem text_at {st : Rd} (h : RdOk st) : FwText (rb st) (rbad st) = bytesOf (textV st) ∧ FwText_1 (rb st) (rbad st) = rb (textN st) ∧ FwText_2 (rb st) (rbad st) = rbad (textN st) := by
  obtain ⟨h1, h2, h3⟩ := u32_at h
  have hlt := u32V_lt h
  unfold FwText FwText_1 FwText_2 textV textN
  rw [h1, h2, h3]
  by_cases hu : u32V st > 16384
  · rw [decide_eq_true (show ((u32V st : Nat) : Int) > 16384 by omega), sel_true, sel_true, sel_true, if_pos hu, if_pos hu]
    obtain ⟨_, t2, t3⟩ := take_at (nxO st 4) 1073741824 (by decide)
    have := nx_none (h.nx 4) (n := (1073741824 : Int).toNat) (by decide)
    rw [this] at t2 t3
    exact ⟨rfl, t2, t3⟩
  · rw [decide_eq_false (show ¬ ((u32V st : Nat) : Int) > 16384 by omega), sel_false, sel_false, sel_false, if_neg hu, if_neg hu]
    have w : IntKind.wrap .i64 ((u32V st : Nat) : Int) = ((u32V st : Nat) : Int) := wrap_small (by omega) (by omega)
    rw [w]
    obtain ⟨t1, t2, t3⟩ := take_at (nxO st 4) ((u32V st : Nat) : Int) (by omega)
    rw [Int.toNat_natCast] at t1 t2 t3
    exact ⟨by rw [t1], t2, t3⟩
theorem bytes_at {st : Rd} (h : RdOk st) (n : Int) : FwBytes (rb st) (rbad st) n = (if n < 0 then [] else tkO st n.toNat) ∧ FwBytes_1 (rb st) (rbad st) n = rb (if n < 0 then none else nxO st n.toNat) ∧ FwBytes_2 (rb st) (rbad st) n = rbad (if n < 0 then none else nxO st n.toNat) := by
  unfold FwBytes FwBytes_1 FwBytes_2
  by_cases hn : n < 0
  · rw [decide_eq_true hn, sel_true, if_pos hn, if_pos hn]
    obtain ⟨t1, t2, t3⟩ := take_at st 1073741824 (by decide)
    rw [nx_none h (n := (1073741824 : Int).toNat) (by decide)] at t2 t3
    rw [tk_none h (n := (1073741824 : Int).toNat) (by decide)] at t1
    exact ⟨t1, t2, t3⟩
  · rw [decide_eq_false hn, sel_false, if_neg hn, if_neg hn]
    exact take_at st n (by omega)
theorem ok_at (st : Rd) : FwOk (rb st) (rbad st) = !(rbad st) := rfl
theorem endr_at (st : Rd) : FwEnd (rb st) (rbad st) = (st == some []) := by
  unfold FwEnd
  cases st with
  | none => rfl
  | some s => cases s <;> rfl

/-! ### the document's -/
/-- What the document's reader has left. -/
def cst (p : List Int) (k : Int) (b : Bool) : Rd := bif b then none else some (p.drop k.toNat)
def CurOk (p : List Int) (k : Int) : Prop := p.length ≤ 1000000000 ∧ (0 : Int) ≤ k ∧ k ≤ (p.length : Int)
theorem cst_ok {p : List Int} {k : Int} (hd : Dg p) (h : CurOk p k) (b : Bool) : RdOk (cst p k b) := by
  intro s hs
  cases b with
  | true => cases hs
  | false =>
    cases hs
    exact ⟨dg_drop _ hd, by rw [List.length_drop]; have := h.1; omega⟩
theorem ctake_at {p : List Int} {k : Int} (b : Bool) (n : Int) (h : CurOk p k) : FwcTake p k b n = (if n < 0 then [] else tkO (cst p k b) n.toNat) ∧ cst p (FwcTake_1 p k b n) (FwcTake_2 p k b n) = (if n < 0 then none else nxO (cst p k b) n.toNat) := by
  obtain ⟨h1, h2, h3⟩ := h
  rcases cTake_is b n ⟨h1, h2, h3⟩ with ⟨rfl, e1, e2, e3, e4, e5⟩ | ⟨e0, e3, e4, e5⟩
  · rw [if_neg (by omega), if_neg (by omega), e3, e4, e5]
    simp only [cst, cond_false, tkO, nxO]
    rw [if_pos (by rw [List.length_drop]; omega), if_pos (by rw [List.length_drop]; omega), List.drop_drop]
    refine ⟨rfl, ?_⟩
    rw [show (k + n).toNat = k.toNat + n.toNat by omega]
  · rw [e3, e4, e5]
    by_cases hn : n < 0
    · rw [if_pos hn, if_pos hn]; exact ⟨rfl, rfl⟩
    · rw [if_neg hn, if_neg hn]
      cases b with
      | true => exact ⟨rfl, rfl⟩
      | false =>
        have : ¬ n.toNat ≤ (p.drop k.toNat).length := by
          rw [List.length_drop]
          intro hle
          exact e0 ⟨rfl, by omega, by omega⟩
        show [] = tkO (some (p.drop k.toNat)) n.toNat ∧ none = nxO (some (p.drop k.toNat)) n.toNat
        rw [tkO_some, nxO_some, if_neg this, if_neg this]
        exact ⟨rfl, rfl⟩
theorem cst_bad (p : List Int) (k : Int) (b : Bool) : rbad (cst p k b) = b := by cases b <;> rfl
theorem cbyte_at {p : List Int} {k : Int} (b : Bool) (hd : Dg p) (h : CurOk p k) : FwcByte p k b = byteV (cst p k b) ∧ cst p (FwcByte_1 p k b) (FwcByte_2 p k b) = nxO (cst p k b) 1 := by
  obtain ⟨h1, h2⟩ := ctake_at b 1 h
  refine ⟨?_, h2⟩
  unfold FwcByte byteV
  have h2' : cst p (FwcTake_1 p k b 1) (FwcTake_2 p k b 1) = nxO (cst p k b) 1 := h2
  have hb : FwcTake_2 p k b 1 = rbad (nxO (cst p k b) 1) := by rw [← h2', cst_bad]
  have h1' : FwcTake p k b 1 = tkO (cst p k b) 1 := h1
  rw [hb, h1']
  have hx := dg_getD ((cst_ok hd h b).tk 1) 0
  have w : IntKind.wrap .i64 ((tkO (cst p k b) 1).getD 0 0) = (tkO (cst p k b) 1).getD 0 0 := wrap_small (by omega) (by omega)
  rw [w]
  cases hs : cst p k b with
  | none => rfl
  | some s =>
    simp only [tkO, nxO]
    split <;> rfl
theorem cu32_at {p : List Int} {k : Int} (b : Bool) (hd : Dg p) (h : CurOk p k) : FwcU32 p k b = (u32V (cst p k b) : Int) ∧ cst p (FwcU32_1 p k b) (FwcU32_2 p k b) = nxO (cst p k b) 4 := by
  obtain ⟨h1, h2⟩ := ctake_at b 4 h
  refine ⟨?_, h2⟩
  unfold FwcU32 u32V
  have h2' : cst p (FwcTake_1 p k b 4) (FwcTake_2 p k b 4) = nxO (cst p k b) 4 := h2
  have hb : FwcTake_2 p k b 4 = rbad (nxO (cst p k b) 4) := by rw [← h2', cst_bad]
  have h1' : FwcTake p k b 4 = tkO (cst p k b) 4 := h1
  rw [hb, h1']
  have hx := (cst_ok hd h b).tk 4
  cases hs : cst p k b with
  | none => rfl
  | some s =>
    rw [hs] at hx
    simp only [tkO, nxO] at hx ⊢
    by_cases hl : 4 ≤ s.length
    · rw [if_pos hl] at hx ⊢
      rw [if_pos hl]
      show sel false _ _ = _
      rw [sel_false]
      have hl4 : (s.take 4).length = 4 := by rw [List.length_take]; omega
      generalize s.take 4 = x at *
      match x, hl4 with
      | [a, b, c, d], _ =>
        have ha := hx a (by simp)
        have hb := hx b (by simp)
        have hc := hx c (by simp)
        have hd := hx d (by simp)
        show iAdd .i64 (iAdd .i64 (iAdd .i64 (iMul .i64 (IntKind.wrap .i64 a) 16777216) (iMul .i64 (IntKind.wrap .i64 b) 65536)) (iMul .i64 (IntKind.wrap .i64 c) 256)) (IntKind.wrap .i64 d) = ((a.toNat * 16777216 + b.toNat * 65536 + c.toNat * 256 + d.toNat : Nat) : Int)
        rw [wrap_small (x := a) (by omega) (by omega), wrap_small (x := b) (by omega) (by omega), wrap_small (x := c) (by omega) (by omega), wrap_small (x := d) (by omega) (by omega)]
        rw [iMul_i64 (x := a) (by omega) (by omega), iMul_i64 (x := b) (by omega) (by omega), iMul_i64 (x := c) (by omega) (by omega), iAdd_i64 (x := a * 16777216) (by omega) (by omega), iAdd_i64 (x := a * 16777216 + b * 65536) (by omega) (by omega), iAdd_i64 (x := a * 16777216 + b * 65536 + c * 256) (by omega) (by omega)]
        omega
    · rw [if_neg hl, if_neg hl]
      rfl
theorem ctext_at {p : List Int} {k : Int} (b : Bool) (hd : Dg p) (h : CurOk p k) : FwcText p k b = bytesOf (textV (cst p k b)) ∧ cst p (FwcText_1 p k b) (FwcText_2 p k b) = textN (cst p k b) := by
  obtain ⟨h1, h2⟩ := cu32_at b hd h
  have hc := in_cU32 b h
  unfold FwcText FwcText_1 FwcText_2 textV textN
  rw [h1]
  have hb : FwcU32_2 p k b = rbad (nxO (cst p k b) 4) := by rw [← h2, cst_bad]
  obtain ⟨t1, t2⟩ := ctake_at (sel (decide (((u32V (cst p k b) : Nat) : Int) > 16384)) true (FwcU32_2 p k b)) ((u32V (cst p k b) : Nat) : Int) (show CurOk p (FwcU32_1 p k b) from ⟨h.1, hc.1, hc.2⟩)
  rw [if_neg (by omega), Int.toNat_natCast] at t1 t2
  rw [t1, t2]
  by_cases hu : u32V (cst p k b) > 16384
  · rw [if_pos hu, if_pos hu, decide_eq_true (show ((u32V (cst p k b) : Nat) : Int) > 16384 by omega), sel_true]
    exact ⟨rfl, rfl⟩
  · rw [if_neg hu, if_neg hu, decide_eq_false (show ¬ ((u32V (cst p k b) : Nat) : Int) > 16384 by omega), sel_false, h2]
    exact ⟨rfl, rfl⟩
theorem cend_at {p : List Int} {k : Int} (b : Bool) (h : CurOk p k) : FwcEnd p k b = (cst p k b == some []) := by
  unfold FwcEnd
  cases b with
  | true => rfl
  | false =>
    obtain ⟨_, h2, h3⟩ := h
    show sel true _ _ = _
    rw [sel_true]
    show _ = (some (p.drop k.toNat) == some [])
    by_cases he : k = (p.length : Int)
    · have e1 : (k == ((p.length : Nat) : Int)) = true := by simpa using he
      rw [e1, List.drop_of_length_le (by omega)]
      rfl
    · have e1 : (k == ((p.length : Nat) : Int)) = false := by simpa using he
      rw [e1]
      cases hd : p.drop k.toNat with
      | nil =>
        have := congrArg List.length hd
        rw [List.length_drop] at this
        simp at this
        omega
      | cons a r => rfl

end Go.Vm
