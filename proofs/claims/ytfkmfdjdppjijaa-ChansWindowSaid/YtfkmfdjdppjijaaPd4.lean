/- How numbers and texts are read and written, in plain words. -/
import Derived.Test.YtfkmfdjdppjijaaWk2
set_option linter.unusedVariables false
set_option linter.unusedSimpArgs false
namespace Go.Vm
open Go

def Dg (xs : List Int) : Prop := ∀ x ∈ xs, 0 ≤ x ∧ x < 256
theorem dg_cons {a : Int} {r : List Int} (h : Dg (a :: r)) : (0 ≤ a ∧ a < 256) ∧ Dg r := ⟨h a List.mem_cons_self, fun x hx => h x (List.mem_cons_of_mem _ hx)⟩
theorem dg_drop {xs : List Int} (n : Nat) (h : Dg xs) : Dg (xs.drop n) := fun x hx => h x (List.mem_of_mem_drop hx)
theorem dg_take {xs : List Int} (n : Nat) (h : Dg xs) : Dg (xs.take n) := fun x hx => h x (List.mem_of_mem_take hx)
theorem dg_app {xs ys : List Int} (h : Dg xs) (h' : Dg ys) : Dg (xs ++ ys) := fun x hx => (List.mem_append.1 hx).elim (h x) (h' x)
theorem dg_getD {xs : List Int} (h : Dg xs) (j : Nat) : 0 ≤ xs.getD j 0 ∧ xs.getD j 0 < 256 := by
  rw [List.getD_eq_getElem?_getD]
  cases hj : xs[j]? with
  | none => exact ⟨by decide, by decide⟩
  | some x => exact h x (List.mem_of_getElem? hj)
theorem dg_row {xs : List Int} (h : ∀ x ∈ xs, IntKind.min .u8 ≤ x ∧ x ≤ IntKind.max .u8) : Dg xs := fun x hx => ⟨(h x hx).1, Int.lt_of_le_of_lt (h x hx).2 (by decide)⟩
theorem bytesI_bytesOf : ∀ {xs : List Int}, Dg xs → bytesI (bytesOf xs) = xs := by
  intro xs h
  unfold bytesI bytesOf
  simp only [List.map_map]
  conv => rhs; rw [← List.map_id xs]
  refine List.map_congr_left fun x hx => ?_
  have := h x hx
  show ((UInt8.ofNat x.toNat).toNat : Int) = x
  rw [UInt8.toNat_ofNat']
  omega
theorem bytesOf_bytesI (s : ByteArray) : bytesOf (bytesI s) = s := by
  unfold bytesI bytesOf
  obtain ⟨⟨l⟩⟩ := s
  have e : ((fun n : Int => UInt8.ofNat n.toNat) ∘ fun c : UInt8 => (c.toNat : Int)) = id := by
    funext c
    show UInt8.ofNat ((c.toNat : Int).toNat) = c
    rw [Int.toNat_natCast, UInt8.ofNat_toNat]
  simp only [List.map_map, e, List.map_id]
theorem dg_bytesI (s : ByteArray) : Dg (bytesI s) := by
  intro x hx
  unfold bytesI at hx
  obtain ⟨c, _, rfl⟩ := List.mem_map.1 hx
  have := c.toNat_lt
  omega
theorem strEq_self (s : ByteArray) : strEq s s = true := by simp [strEq]

theorem sel_t {α : Type} {b : Bool} {x y : α} (h : b = true) : sel b x y = x := by rw [h, sel_true]
theorem sel_f {α : Type} {b : Bool} {x y : α} (h : b = false) : sel b x y = y := by rw [h, sel_false]

def be4 (n : Nat) : List Int := [((n / 16777216 % 256 : Nat) : Int), ((n / 65536 % 256 : Nat) : Int), ((n / 256 % 256 : Nat) : Int), ((n % 256 : Nat) : Int)]
theorem dg_be4 (n : Nat) : Dg (be4 n) := by
  intro x hx
  simp only [be4, List.mem_cons, List.not_mem_nil, or_false] at hx
  omega
theorem be4_of (n : Nat) (h : n < 4294967296) : [(IntKind.wrap .u8 (iShr .u32 (IntKind.wrap .u32 (n : Int)) 24)), (IntKind.wrap .u8 (iShr .u32 (IntKind.wrap .u32 (n : Int)) 16)), (IntKind.wrap .u8 (iShr .u32 (IntKind.wrap .u32 (n : Int)) 8)), (IntKind.wrap .u8 (IntKind.wrap .u32 (n : Int)))] = be4 n := by
  have e1 := iShr_at .u32 (IntKind.wrap .u32 (n : Int)) 24 (by decide)
  have e2 := iShr_at .u32 (IntKind.wrap .u32 (n : Int)) 16 (by decide)
  have e3 := iShr_at .u32 (IntKind.wrap .u32 (n : Int)) 8 (by decide)
  have w : IntKind.wrap .u32 (n : Int) = (n : Int) := by rw [wrap_u32]; omega
  rw [w] at e1 e2 e3 ⊢
  rw [show (24 : Int) = ((24 : Nat) : Int) from rfl, show (16 : Int) = ((16 : Nat) : Int) from rfl, show (8 : Int) = ((8 : Nat) : Int) from rfl, e1, e2, e3]
  have p1 : (2 : Int) ^ 24 = 16777216 := rfl
  have p2 : (2 : Int) ^ 16 = 65536 := rfl
  have p3 : (2 : Int) ^ 8 = 256 := rfl
  rw [p1, p2, p3, wrap_u8, wrap_u8, wrap_u8, wrap_u8]
  have q1 : (n : Int) / 16777216 % 256 = ((n / 16777216 % 256 : Nat) : Int) := by omega
  have q2 : (n : Int) / 65536 % 256 = ((n / 65536 % 256 : Nat) : Int) := by omega
  have q3 : (n : Int) / 256 % 256 = ((n / 256 % 256 : Nat) : Int) := by omega
  have q4 : (n : Int) % 256 = ((n % 256 : Nat) : Int) := by omega
  rw [q1, q2, q3, q4]
  rfl
theorem or8 (z c : Nat) (hz : z < 16777216) (hc : c < 256) : iOr .u32 (iShl .u32 (z : Int) 8) (IntKind.wrap .u32 (c : Int)) = ((z * 256 + c : Nat) : Int) := by
  have e1 : iShl .u32 (z : Int) 8 = ((z * 256 : Nat) : Int) := by
    have := iShl_at .u32 (z : Int) 8 (by decide)
    rw [show (8 : Int) = ((8 : Nat) : Int) from rfl, this, wrap_u32, show (2 : Int) ^ 8 = 256 from rfl]
    omega
  rw [e1, wrap_u32]
  have e2 : ((c : Int) % 4294967296) = (c : Int) := by omega
  rw [e2]
  unfold iOr
  rw [wrap_u32]
  have e3 : (BitVec.ofInt (IntKind.bits .u32) ((z * 256 : Nat) : Int) ||| BitVec.ofInt (IntKind.bits .u32) ((c : Nat) : Int)).toNat = z * 256 + c := by
    rw [BitVec.toNat_or, BitVec.ofInt_natCast, BitVec.ofInt_natCast, BitVec.toNat_ofNat, BitVec.toNat_ofNat]
    show (z * 256 % 4294967296 ||| c % 4294967296) = z * 256 + c
    rw [Nat.mod_eq_of_lt (by omega), Nat.mod_eq_of_lt (by omega)]
    have := Nat.two_pow_add_eq_or_of_lt (i := 8) (b := c) (by omega) z
    rw [show 2 ^ 8 * z = z * 256 from by omega] at this
    exact this.symm
  rw [e3]
  omega

theorem take_ok (xs r : List Int) (n : Int) (h : n = (xs.length : Int)) : FwtakeF (xs ++ r) false n = xs ∧ FwtakeF_1 (xs ++ r) false n = r ∧ FwtakeF_2 (xs ++ r) false n = false := by
  subst h
  unfold FwtakeF FwtakeF_1 FwtakeF_2
  have h0 : (decide (((xs.length : Nat) : Int) > (((xs ++ r).length : Nat) : Int))) = false := decide_eq_false (by rw [List.length_append]; omega)
  refine ⟨?_, ?_, ?_⟩
  · rw [sel_false, sel_f h0, Int.toNat_natCast, List.drop_zero, Nat.sub_zero, List.take_left']
    rfl
  · rw [sel_false, sel_f h0, Int.toNat_natCast, List.drop_left' rfl, List.take_of_length_le]
    rw [List.length_append]; omega
  · rw [sel_false, sel_f h0]
theorem u32_read (n : Nat) (h : n < 4294967296) (r : List Int) : FwU32 (be4 n ++ r) false = (n : Int) ∧ FwU32_1 (be4 n ++ r) false = r ∧ FwU32_2 (be4 n ++ r) false = false := by
  obtain ⟨h1, h2, h3⟩ := take_ok (be4 n) r 4 rfl
  refine ⟨?_, h2, h3⟩
  have f0 : ∀ k z, FwU32l0 (be4 n ++ r) false k z = iOr .u32 (iShl .u32 z 8) (IntKind.wrap .u32 ((be4 n).getD k 0)) := fun k z => by unfold FwU32l0; rw [h1]
  unfold FwU32
  rw [h1]
  show itr _ 4 0 = _
  rw [itr_succ, itr_succ, itr_succ, itr_succ, itr_zero, f0, f0, f0, f0]
  show iOr .u32 (iShl .u32 (iOr .u32 (iShl .u32 (iOr .u32 (iShl .u32 (iOr .u32 (iShl .u32 ((0 : Nat) : Int) 8) (IntKind.wrap .u32 ((n / 16777216 % 256 : Nat) : Int))) 8) (IntKind.wrap .u32 ((n / 65536 % 256 : Nat) : Int))) 8) (IntKind.wrap .u32 ((n / 256 % 256 : Nat) : Int))) 8) (IntKind.wrap .u32 ((n % 256 : Nat) : Int)) = _
  rw [or8 _ _ (by omega) (by omega), or8 _ _ (by omega) (by omega), or8 _ _ (by omega) (by omega), or8 _ _ (by omega) (by omega)]
  congr 1
  omega
theorem text_read (s r : List Int) (h : s.length ≤ 16384) : FwText (be4 s.length ++ s ++ r) false = bytesOf s ∧ FwText_1 (be4 s.length ++ s ++ r) false = r ∧ FwText_2 (be4 s.length ++ s ++ r) false = false := by
  rw [List.append_assoc]
  obtain ⟨h1, h2, h3⟩ := u32_read s.length (by omega) (s ++ r)
  unfold FwText FwText_1 FwText_2
  rw [h1, h2, h3]
  have h0 : (decide (((s.length : Nat) : Int) > 16384)) = false := decide_eq_false (by omega)
  obtain ⟨h4, h5, h6⟩ := take_ok s r (IntKind.wrap .i64 ((s.length : Nat) : Int)) (wrap_small (by omega) (by omega))
  rw [sel_f h0, sel_f h0, sel_f h0, h4, h5, h6]
  exact ⟨rfl, rfl, rfl⟩

theorem u32o_at (k : Nat) (xs : List Int) (n : Nat) (h : n < 4294967296) : FwwU32 k xs (IntKind.wrap .u32 ((n : Nat) : Int)) = xs ++ be4 n := congrArg (xs ++ ·) (be4_of n h)
theorem text_writes (k : Nat) (xs : List Int) (s : ByteArray) (h : s.size < 4294967296) : FwwText k xs s = xs ++ be4 s.size ++ bytesI s := by
  unfold FwwText
  rw [u32o_at _ _ _ h]
theorem end_at : FwEnd [] false = true := rfl
abbrev Rd := Option (List Int)
def tkO : Rd → Nat → List Int
  | some s, n => if n ≤ s.length then s.take n else []
  | none, _ => []
def nxO : Rd → Nat → Rd
  | some s, n => if n ≤ s.length then some (s.drop n) else none
  | none, _ => none
theorem tkO_some (s : List Int) (n : Nat) : tkO (some s) n = if n ≤ s.length then s.take n else [] := rfl
theorem nxO_some (s : List Int) (n : Nat) : nxO (some s) n = if n ≤ s.length then some (s.drop n) else none := rfl
def rb : Rd → List Int
  | some s => s
  | none => []
def rbad : Rd → Bool
  | some _ => false
  | none => true
def RdOk (st : Rd) : Prop := ∀ s, st = some s → Dg s ∧ s.length ≤ 1000000000
theorem RdOk.nx {st : Rd} (h : RdOk st) (n : Nat) : RdOk (nxO st n) := by
  intro s hs
  cases st with
  | none => cases hs
  | some t =>
    rw [nxO_some] at hs
    split at hs
    · cases hs
      exact ⟨dg_drop _ (h t rfl).1, by rw [List.length_drop]; have := (h t rfl).2; omega⟩
    · cases hs
theorem RdOk.tk {st : Rd} (h : RdOk st) (n : Nat) : Dg (tkO st n) := by
  cases st with
  | none => intro x hx; cases hx
  | some t =>
    rw [tkO_some]
    split
    · exact dg_take _ (h t rfl).1
    · intro x hx; cases hx
theorem tk_len (st : Rd) (n : Nat) : (tkO st n).length = n ∨ tkO st n = [] := by
  cases st with
  | none => exact .inr rfl
  | some t =>
    rw [tkO_some]
    split
    · rw [List.length_take]; exact .inl (by omega)
    · exact .inr rfl
theorem tk_le (st : Rd) (n : Nat) : (tkO st n).length ≤ n := by
  rcases tk_len st n with h | h
  · omega
  · rw [h]; exact Nat.zero_le _
theorem nx_none {st : Rd} (h : RdOk st) {n : Nat} (hn : 1000000000 < n) : nxO st n = none := by
  cases st with
  | none => rfl
  | some s =>
    have := (h s rfl).2
    rw [nxO_some, if_neg (by omega)]
theorem tk_none {st : Rd} (h : RdOk st) {n : Nat} (hn : 1000000000 < n) : tkO st n = [] := by
  cases st with
  | none => rfl
  | some s =>
    have := (h s rfl).2
    rw [tkO_some, if_neg (by omega)]
def val4 : List Int → Nat
  | [a, b, c, d] => a.toNat * 16777216 + b.toNat * 65536 + c.toNat * 256 + d.toNat
  | _ => 0
def u32V (st : Rd) : Nat := val4 (tkO st 4)
def byteV (st : Rd) : Int := (tkO st 1).getD 0 0
def textV (st : Rd) : List Int := if u32V st > 16384 then [] else tkO (nxO st 4) (u32V st)
def textN (st : Rd) : Rd := if u32V st > 16384 then none else nxO (nxO st 4) (u32V st)
theorem val4_lt {x : List Int} (h : Dg x) : val4 x < 4294967296 := by
  unfold val4
  split
  · rename_i a b c d
    have ha := h a (by simp)
    have hb := h b (by simp)
    have hc := h c (by simp)
    have hd := h d (by simp)
    omega
  · decide
theorem u32V_lt {st : Rd} (h : RdOk st) : u32V st < 4294967296 := val4_lt (h.tk 4)
theorem RdOk.textV {st : Rd} (h : RdOk st) : Dg (textV st) ∧ (textV st).length ≤ 16384 := by
  unfold Vm.textV
  split
  · exact ⟨fun x hx => (by cases hx), Nat.zero_le _⟩
  · exact ⟨(h.nx 4).tk _, Nat.le_trans (tk_le _ _) (by omega)⟩
theorem RdOk.textN {st : Rd} (h : RdOk st) : RdOk (textN st) := by
  unfold Vm.textN
  split
  · intro s hs; cases hs
  · exact (h.nx 4).nx _

theorem takeOk_at (s : List Int) (b : Bool) (n : Int) : FwtakeOk s b n = s.take n.toNat ∧ FwtakeOk_1 s b n = s.drop n.toNat := by
  unfold FwtakeOk FwtakeOk_1
  refine ⟨rfl, ?_⟩
  rw [List.take_of_length_le (by rw [List.length_drop]; exact Nat.le_refl _)]
theorem take_at (st : Rd) (n : Int) (h : 0 ≤ n) : FwtakeF (rb st) (rbad st) n = tkO st n.toNat ∧ FwtakeF_1 (rb st) (rbad st) n = rb (nxO st n.toNat) ∧ FwtakeF_2 (rb st) (rbad st) n = rbad (nxO st n.toNat) := by
  unfold FwtakeF FwtakeF_1 FwtakeF_2
  cases st with
  | none => exact ⟨rfl, rfl, rfl⟩
  | some s =>
    rw [tkO_some, nxO_some]
    show sel false _ _ = _ ∧ sel false _ _ = _ ∧ sel false _ _ = _
    rw [sel_false, sel_false, sel_false]
    show sel (decide (n > (s.length : Int))) _ _ = _ ∧ sel (decide (n > (s.length : Int))) _ _ = _ ∧ sel (decide (n > (s.length : Int))) _ _ = _
    by_cases hn : n.toNat ≤ s.length
    · rw [decide_eq_false (show ¬ n > (s.length : Int) by omega), sel_false, sel_false, sel_false, if_pos hn, if_pos hn]
      refine ⟨rfl, ?_, rfl⟩
      show (s.drop n.toNat).take (s.length - n.toNat) = _
      rw [List.take_of_length_le (by rw [List.length_drop]; exact Nat.le_refl _)]
      rfl
    · rw [decide_eq_true (show n > (s.length : Int) by omega), sel_true, sel_true, sel_true, if_neg hn, if_neg hn]
      exact ⟨rfl, rfl, rfl⟩
theorem byte_at (st : Rd) : FwByte (rb st) (rbad st) = byteV st ∧ FwByte_1 (rb st) (rbad st) = rb (nxO st 1) ∧ FwByte_2 (rb st) (rbad st) = rbad (nxO st 1) := by
  unfold FwByte FwByte_1 FwByte_2 byteV
  cases st with
  | none => exact ⟨rfl, rfl, rfl⟩
  | some s =>
    rw [tkO_some, nxO_some]
    show sel false _ _ = _ ∧ sel false _ _ = _ ∧ sel false _ _ = _
    rw [sel_false, sel_false, sel_false]
    show sel (decide ((1 : Int) > (s.length : Int))) _ _ = _ ∧ sel (decide ((1 : Int) > (s.length : Int))) _ _ = _ ∧ sel (decide ((1 : Int) > (s.length : Int))) _ _ = _
    by_cases hn : 1 ≤ s.length
    · rw [decide_eq_false (show ¬ (1 : Int) > (s.length : Int) by omega), sel_false, sel_false, sel_false, if_pos hn, if_pos hn]
      exact ⟨by show (FwtakeOk s false 1).getD 0 0 = _; rw [(takeOk_at s false 1).1]; rfl, (takeOk_at s false 1).2, rfl⟩
    · rw [decide_eq_true (show (1 : Int) > (s.length : Int) by omega), sel_true, sel_true, sel_true, if_neg hn, if_neg hn]
      exact ⟨rfl, rfl, rfl⟩
theorem flag_at (st : Rd) : FwFlag (rb st) (rbad st) = (byteV st != 0) ∧ FwFlag_1 (rb st) (rbad st) = rb (nxO st 1) ∧ FwFlag_2 (rb st) (rbad st) = rbad (nxO st 1) := by
  obtain ⟨h1, h2, h3⟩ := byte_at st
  exact ⟨by unfold FwFlag; rw [h1], h2, h3⟩
theorem or8' (z : Nat) {x : Int} (hz : z < 16777216) (hx : 0 ≤ x ∧ x < 256) : iOr .u32 (iShl .u32 (z : Int) 8) (IntKind.wrap .u32 x) = ((z * 256 + x.toNat : Nat) : Int) := by
  have := or8 z x.toNat hz (by omega)
  rw [show ((x.toNat : Nat) : Int) = x by omega] at this
  exact this
theorem u32_at {st : Rd} (h : RdOk st) : FwU32 (rb st) (rbad st) = (u32V st : Int) ∧ FwU32_1 (rb st) (rbad st) = rb (nxO st 4) ∧ FwU32_2 (rb st) (rbad st) = rbad (nxO st 4) := by
  obtain ⟨h1, h2, h3⟩ := take_at st 4 (by decide)
  refine ⟨?_, h2, h3⟩
  have hd := h.tk 4
  have h1' : FwtakeF (rb st) (rbad st) 4 = tkO st 4 := h1
  have f0 : ∀ k z, FwU32l0 (rb st) (rbad st) k z = iOr .u32 (iShl .u32 z 8) (IntKind.wrap .u32 ((tkO st 4).getD k 0)) := fun k z => by unfold FwU32l0; rw [h1']
  unfold FwU32 u32V
  rw [h1']
  rcases tk_len st 4 with hl | hl
  · generalize tkO st 4 = x at *
    match x, hl with
    | [a, b, c, d], _ =>
      have ha := hd a (by simp)
      have hb := hd b (by simp)
      have hc := hd c (by simp)
      have hd' := hd d (by simp)
      show itr _ 4 0 = _
      rw [itr_succ, itr_succ, itr_succ, itr_succ, itr_zero, f0, f0, f0, f0]
      show iOr .u32 (iShl .u32 (iOr .u32 (iShl .u32 (iOr .u32 (iShl .u32 (iOr .u32 (iShl .u32 ((0 : Nat) : Int) 8) (IntKind.wrap .u32 a)) 8) (IntKind.wrap .u32 b)) 8) (IntKind.wrap .u32 c)) 8) (IntKind.wrap .u32 d) = _
      rw [or8' _ (by omega) ha, or8' _ (by omega) hb, or8' _ (by omega) hc, or8' _ (by omega) hd']
      show _ = ((a.toNat * 16777216 + b.toNat * 65536 + c.toNat * 256 + d.toNat : Nat) : Int)
      omega
  · rw [hl]
    show itr _ 0 0 = _
    rw [itr_zero]
    rfl
theorem text_at {st : Rd} (h : RdOk st) : FwText (rb st) (rbad st) = bytesOf (textV st) ∧ FwText_1 (rb st) (rbad st) = rb (textN st) ∧ FwText_2 (rb st) (rbad st) = rbad (textN st) := by
  obtain ⟨h1, h2, h3⟩ := u32_at h
  have hlt := u32V_lt h
  unfold FwText FwText_1 FwText_2 textV textN
  rw [h1, h2, h3]
  by_cases hu : u32V st > 16384
  · rw [decide_eq_true (show ((u32V st : Nat) : Int) > 16384 by omega), sel_true, sel_true, sel_true, if_pos hu, if_pos hu]
    obtain ⟨_, t2, t3⟩ := take_at (nxO st 4) 1073741824 (by decide)
    have := nx_none (h.nx 4) (n := (1073741824 : Int).toNat) (by decide)
    rw [this] at t2 t3
    exact ⟨rfl, t2, t3⟩
  · rw [decide_eq_false (show ¬ ((u32V st : Nat) : Int) > 16384 by omega), sel_false, sel_false, sel_false, if_neg hu, if_neg hu]
    have w : IntKind.wrap .i64 ((u32V st : Nat) : Int) = ((u32V st : Nat) : Int) := wrap_small (by omega) (by omega)
    rw [w]
    obtain ⟨t1, t2, t3⟩ := take_at (nxO st 4) ((u32V st : Nat) : Int) (by omega)
    rw [Int.toNat_natCast] at t1 t2 t3
    exact ⟨by rw [t1], t2, t3⟩
theorem ok_at (st : Rd) : FwOk (rb st) (rbad st) = !(rbad st) := rfl
theorem endr_at (st : Rd) : FwEnd (rb st) (rbad st) = (st == some []) := by
  unfold FwEnd
  cases st with
  | none => rfl
  | some s => cases s <;> rfl

def cst (p : List Int) (k : Int) (b : Bool) : Rd := bif b then none else some (p.drop k.toNat)
def CurOk (p : List Int) (k : Int) : Prop := p.length ≤ 1000000000 ∧ (0 : Int) ≤ k ∧ k ≤ (p.length : Int)
theorem cst_ok {p : List Int} {k : Int} (hd : Dg p) (h : CurOk p k) (b : Bool) : RdOk (cst p k b) := by
  intro s hs
  cases b with
  | true => cases hs
  | false =>
    cases hs
    exact ⟨dg_drop _ hd, by rw [List.length_drop]; have := h.1; omega⟩
theorem ctake_at {p : List Int} {k : Int} (b : Bool) (n : Int) (h : CurOk p k) : FwcTake p k b n = (if n < 0 then [] else tkO (cst p k b) n.toNat) ∧ cst p (FwcTake_1 p k b n) (FwcTake_2 p k b n) = (if n < 0 then none else nxO (cst p k b) n.toNat) := by
  obtain ⟨h1, h2, h3⟩ := h
  rcases cTake_is b n ⟨h1, h2, h3⟩ with ⟨rfl, e1, e2, e3, e4, e5⟩ | ⟨e0, e3, e4, e5⟩
  · rw [if_neg (by omega), if_neg (by omega), e3, e4, e5]
    simp only [cst, cond_false, tkO, nxO]
    rw [if_pos (by rw [List.length_drop]; omega), if_pos (by rw [List.length_drop]; omega), List.drop_drop]
    refine ⟨rfl, ?_⟩
    rw [show (k + n).toNat = k.toNat + n.toNat by omega]
  · rw [e3, e4, e5]
    by_cases hn : n < 0
    · rw [if_pos hn, if_pos hn]; exact ⟨rfl, rfl⟩
    · rw [if_neg hn, if_neg hn]
      cases b with
      | true => exact ⟨rfl, rfl⟩
      | false =>
        have : ¬ n.toNat ≤ (p.drop k.toNat).length := by
          rw [List.length_drop]
          intro hle
          exact e0 ⟨rfl, by omega, by omega⟩
        show [] = tkO (some (p.drop k.toNat)) n.toNat ∧ none = nxO (some (p.drop k.toNat)) n.toNat
        rw [tkO_some, nxO_some, if_neg this, if_neg this]
        exact ⟨rfl, rfl⟩
theorem cst_bad (p : List Int) (k : Int) (b : Bool) : rbad (cst p k b) = b := by cases b <;> rfl
theorem cbyte_at {p : List Int} {k : Int} (b : Bool) (hd : Dg p) (h : CurOk p k) : FwcByte p k b = byteV (cst p k b) ∧ cst p (FwcByte_1 p k b) (FwcByte_2 p k b) = nxO (cst p k b) 1 := by
  obtain ⟨h1, h2⟩ := ctake_at b 1 h
  refine ⟨?_, h2⟩
  unfold FwcByte byteV
  have h2' : cst p (FwcTake_1 p k b 1) (FwcTake_2 p k b 1) = nxO (cst p k b) 1 := h2
  have hb : FwcTake_2 p k b 1 = rbad (nxO (cst p k b) 1) := by rw [← h2', cst_bad]
  have h1' : FwcTake p k b 1 = tkO (cst p k b) 1 := h1
  rw [hb, h1']
  have hx := dg_getD ((cst_ok hd h b).tk 1) 0
  have w : IntKind.wrap .i64 ((tkO (cst p k b) 1).getD 0 0) = (tkO (cst p k b) 1).getD 0 0 := wrap_small (by omega) (by omega)
  rw [w]
  cases hs : cst p k b with
  | none => rfl
  | some s =>
    simp only [tkO, nxO]
    split <;> rfl
theorem cu32_at {p : List Int} {k : Int} (b : Bool) (hd : Dg p) (h : CurOk p k) : FwcU32 p k b = (u32V (cst p k b) : Int) ∧ cst p (FwcU32_1 p k b) (FwcU32_2 p k b) = nxO (cst p k b) 4 := by
  obtain ⟨h1, h2⟩ := ctake_at b 4 h
  refine ⟨?_, h2⟩
  unfold FwcU32 u32V
  have h2' : cst p (FwcTake_1 p k b 4) (FwcTake_2 p k b 4) = nxO (cst p k b) 4 := h2
  have hb : FwcTake_2 p k b 4 = rbad (nxO (cst p k b) 4) := by rw [← h2', cst_bad]
  have h1' : FwcTake p k b 4 = tkO (cst p k b) 4 := h1
  rw [hb, h1']
  have hx := (cst_ok hd h b).tk 4
  cases hs : cst p k b with
  | none => rfl
  | some s =>
    rw [hs] at hx
    simp only [tkO, nxO] at hx ⊢
    by_cases hl : 4 ≤ s.length
    · rw [if_pos hl] at hx ⊢
      rw [if_pos hl]
      show sel false _ _ = _
      rw [sel_false]
      have hl4 : (s.take 4).length = 4 := by rw [List.length_take]; omega
      generalize s.take 4 = x at *
      match x, hl4 with
      | [a, b, c, d], _ =>
        have ha := hx a (by simp)
        have hb := hx b (by simp)
        have hc := hx c (by simp)
        have hd := hx d (by simp)
        show iAdd .i64 (iAdd .i64 (iAdd .i64 (iMul .i64 (IntKind.wrap .i64 a) 16777216) (iMul .i64 (IntKind.wrap .i64 b) 65536)) (iMul .i64 (IntKind.wrap .i64 c) 256)) (IntKind.wrap .i64 d) = ((a.toNat * 16777216 + b.toNat * 65536 + c.toNat * 256 + d.toNat : Nat) : Int)
        rw [wrap_small (x := a) (by omega) (by omega), wrap_small (x := b) (by omega) (by omega), wrap_small (x := c) (by omega) (by omega), wrap_small (x := d) (by omega) (by omega)]
        rw [iMul_i64 (x := a) (by omega) (by omega), iMul_i64 (x := b) (by omega) (by omega), iMul_i64 (x := c) (by omega) (by omega), iAdd_i64 (x := a * 16777216) (by omega) (by omega), iAdd_i64 (x := a * 16777216 + b * 65536) (by omega) (by omega), iAdd_i64 (x := a * 16777216 + b * 65536 + c * 256) (by omega) (by omega)]
        omega
    · rw [if_neg hl, if_neg hl]
      rfl
theorem ctext_at {p : List Int} {k : Int} (b : Bool) (hd : Dg p) (h : CurOk p k) : FwcText p k b = bytesOf (textV (cst p k b)) ∧ cst p (FwcText_1 p k b) (FwcText_2 p k b) = textN (cst p k b) := by
  obtain ⟨h1, h2⟩ := cu32_at b hd h
  have hc := in_cU32 b h
  unfold FwcText FwcText_1 FwcText_2 textV textN
  rw [h1]
  have hb : FwcU32_2 p k b = rbad (nxO (cst p k b) 4) := by rw [← h2, cst_bad]
  obtain ⟨t1, t2⟩ := ctake_at (sel (decide (((u32V (cst p k b) : Nat) : Int) > 16384)) true (FwcU32_2 p k b)) ((u32V (cst p k b) : Nat) : Int) (show CurOk p (FwcU32_1 p k b) from ⟨h.1, hc.1, hc.2⟩)
  rw [if_neg (by omega), Int.toNat_natCast] at t1 t2
  rw [t1, t2]
  by_cases hu : u32V (cst p k b) > 16384
  · rw [if_pos hu, if_pos hu, decide_eq_true (show ((u32V (cst p k b) : Nat) : Int) > 16384 by omega), sel_true]
    exact ⟨rfl, rfl⟩
  · rw [if_neg hu, if_neg hu, decide_eq_false (show ¬ ((u32V (cst p k b) : Nat) : Int) > 16384 by omega), sel_false, h2]
    exact ⟨rfl, rfl⟩
theorem cend_at {p : List Int} {k : Int} (b : Bool) (h : CurOk p k) : FwcEnd p k b = (cst p k b == some []) := by
  unfold FwcEnd
  cases b with
  | true => rfl
  | false =>
    obtain ⟨_, h2, h3⟩ := h
    show sel true _ _ = _
    rw [sel_true]
    show _ = (some (p.drop k.toNat) == some [])
    by_cases he : k = (p.length : Int)
    · have e1 : (k == ((p.length : Nat) : Int)) = true := by simpa using he
      rw [e1, List.drop_of_length_le (by omega)]
      rfl
    · have e1 : (k == ((p.length : Nat) : Int)) = false := by simpa using he
      rw [e1]
      cases hd : p.drop k.toNat with
      | nil =>
        have := congrArg List.length hd
        rw [List.length_drop] at this
        simp at this
        omega
      | cons a r => rfl
theorem rU32_at (n : Nat) (h : n < 4294967296) : FwrU32 ((n : Nat) : Int) = be4 n := by
  unfold FwrU32 be4
  have q1 : iQuo .i64 ((n : Nat) : Int) 16777216 = ((n / 16777216 : Nat) : Int) := iQuo_nat (b := 16777216) (by omega)
  have q2 : iQuo .i64 ((n : Nat) : Int) 65536 = ((n / 65536 : Nat) : Int) := iQuo_nat (b := 65536) (by omega)
  have q3 : iQuo .i64 ((n : Nat) : Int) 256 = ((n / 256 : Nat) : Int) := iQuo_nat (b := 256) (by omega)
  rw [q1, q2, q3, wrap_u8, wrap_u8, wrap_u8, wrap_u8]
  refine List.ext_getElem rfl fun i h1 h2 => ?_
  match i, h1 with
  | 0, _ => show ((n / 16777216 : Nat) : Int) % 256 = ((n / 16777216 % 256 : Nat) : Int); omega
  | 1, _ => show ((n / 65536 : Nat) : Int) % 256 = ((n / 65536 % 256 : Nat) : Int); omega
  | 2, _ => show ((n / 256 : Nat) : Int) % 256 = ((n / 256 % 256 : Nat) : Int); omega
  | 3, _ => show ((n : Nat) : Int) % 256 = ((n % 256 : Nat) : Int); omega
theorem rText_at (s : ByteArray) (h : s.size < 4294967296) : FwrText s = be4 s.size ++ bytesI s := by
  unfold FwrText
  rw [rU32_at _ h]
theorem val4_be4 {n : Nat} (h : n < 4294967296) : val4 (be4 n) = n := by
  show (((n / 16777216 % 256 : Nat) : Int)).toNat * 16777216 + (((n / 65536 % 256 : Nat) : Int)).toNat * 65536 + (((n / 256 % 256 : Nat) : Int)).toNat * 256 + (((n % 256 : Nat) : Int)).toNat = n
  rw [Int.toNat_natCast, Int.toNat_natCast, Int.toNat_natCast, Int.toNat_natCast]
  omega
theorem u32_back (n : Nat) (h : n < 4294967296) (r : List Int) : u32V (some (be4 n ++ r)) = n ∧ nxO (some (be4 n ++ r)) 4 = some r := by
  have hl : 4 ≤ (be4 n ++ r).length := by rw [List.length_append]; show 4 ≤ 4 + _; omega
  unfold u32V
  have e1 : (be4 n ++ r).take 4 = be4 n := List.take_left' rfl
  have e2 : (be4 n ++ r).drop 4 = r := List.drop_left' rfl
  rw [tkO_some, nxO_some, if_pos hl, if_pos hl, e1, e2]
  exact ⟨val4_be4 h, rfl⟩
theorem text_back (s r : List Int) (h : s.length ≤ 16384) : textV (some (be4 s.length ++ s ++ r)) = s ∧ textN (some (be4 s.length ++ s ++ r)) = some r := by
  obtain ⟨h1, h2⟩ := u32_back s.length (by omega) (s ++ r)
  rw [List.append_assoc]
  unfold textV textN
  have hl : s.length ≤ (s ++ r).length := by rw [List.length_append]; omega
  rw [h1, h2, if_neg (by omega), if_neg (by omega), tkO_some, nxO_some, if_pos hl, if_pos hl, List.take_left' rfl, List.drop_left' rfl]
  exact ⟨rfl, rfl⟩

end Go.Vm
