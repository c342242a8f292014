/- Numbers, texts and whole numbers in bytes: what the code writes and reads, in plain words. -/
import Derived.Test.YtclfmaifcelcpaaWk5
set_option linter.unusedVariables false
set_option linter.unusedSimpArgs false
namespace Go.Vm
open Go

def Dg (xs : List Int) : Prop := ∀ x ∈ xs, 0 ≤ x ∧ x < 256
theorem dg_cons {a : Int} {r : List Int} (h : Dg (a :: r)) : (0 ≤ a ∧ a < 256) ∧ Dg r := ⟨h a List.mem_cons_self, fun x hx => h x (List.mem_cons_of_mem _ hx)⟩
theorem dg_drop {xs : List Int} (n : Nat) (h : Dg xs) : Dg (xs.drop n) := fun x hx => h x (List.mem_of_mem_drop hx)
theorem dg_take {xs : List Int} (n : Nat) (h : Dg xs) : Dg (xs.take n) := fun x hx => h x (List.mem_of_mem_take hx)
theorem dg_app {xs ys : List Int} (h : Dg xs) (h' : Dg ys) : Dg (xs ++ ys) := fun x hx => (List.mem_append.1 hx).elim (h x) (h' x)
theorem dg_getD {xs : List Int} (h : Dg xs) (j : Nat) : 0 ≤ xs.getD j 0 ∧ xs.getD j 0 < 256 := by
  rw [List.getD_eq_getElem?_getD]
  cases hj : xs[j]? with
  | none => exact ⟨by decide, by decide⟩
  | some x => exact h x (List.mem_of_getElem? hj)

theorem dg_row {xs : List Int} (h : ∀ x ∈ xs, IntKind.min .u8 ≤ x ∧ x ≤ IntKind.max .u8) : Dg xs := fun x hx => ⟨(h x hx).1, Int.lt_of_le_of_lt (h x hx).2 (by decide)⟩

theorem bytesI_bytesOf : ∀ {xs : List Int}, Dg xs → bytesI (bytesOf xs) = xs := by
  intro xs h
  unfold bytesI bytesOf
  simp only [List.map_map]
  conv => rhs; rw [← List.map_id xs]
  refine List.map_congr_left fun x hx => ?_
  have := h x hx
  show ((UInt8.ofNat x.toNat).toNat : Int) = x
  rw [UInt8.toNat_ofNat']
  omega
theorem bytesOf_bytesI (s : ByteArray) : bytesOf (bytesI s) = s := by
  unfold bytesI bytesOf
  obtain ⟨⟨l⟩⟩ := s
  have e : ((fun n : Int => UInt8.ofNat n.toNat) ∘ fun c : UInt8 => (c.toNat : Int)) = id := by
    funext c
    show UInt8.ofNat ((c.toNat : Int).toNat) = c
    rw [Int.toNat_natCast, UInt8.ofNat_toNat]
  simp only [List.map_map, e, List.map_id]
theorem dg_bytesI (s : ByteArray) : Dg (bytesI s) := by
  intro x hx
  unfold bytesI at hx
  obtain ⟨c, _, rfl⟩ := List.mem_map.1 hx
  have := c.toNat_lt
  omega
theorem strEq_self (s : ByteArray) : strEq s s = true := by simp [strEq]

/-! ### choices -/
theorem sel_t {α : Type} {b : Bool} {x y : α} (h : b = true) : sel b x y = x := by rw [h, sel_true]
theorem sel_f {α : Type} {b : Bool} {x y : α} (h : b = false) : sel b x y = y := by rw [h, sel_false]

/-! ### numbers of four bytes -/
def be4 (n : Nat) : List Int := [((n / 16777216 % 256 : Nat) : Int), ((n / 65536 % 256 : Nat) : Int), ((n / 256 % 256 : Nat) : Int), ((n % 256 : Nat) : Int)]
theorem dg_be4 (n : Nat) : Dg (be4 n) := by
  intro x hx
  simp only [be4, List.mem_cons, List.not_mem_nil, or_false] at hx
  omega
theorem be4_of (n : Nat) (h : n < 4294967296) : [(IntKind.wrap .u8 (iShr .u32 (IntKind.wrap .u32 (n : Int)) 24)), (IntKind.wrap .u8 (iShr .u32 (IntKind.wrap .u32 (n : Int)) 16)), (IntKind.wrap .u8 (iShr .u32 (IntKind.wrap .u32 (n : Int)) 8)), (IntKind.wrap .u8 (IntKind.wrap .u32 (n : Int)))] = be4 n := by
  have e1 := iShr_at .u32 (IntKind.wrap .u32 (n : Int)) 24 (by decide)
  have e2 := iShr_at .u32 (IntKind.wrap .u32 (n : Int)) 16 (by decide)
  have e3 := iShr_at .u32 (IntKind.wrap .u32 (n : Int)) 8 (by decide)
  have w : IntKind.wrap .u32 (n : Int) = (n : Int) := by rw [wrap_u32]; omega
  rw [w] at e1 e2 e3 ⊢
  rw [show (24 : Int) = ((24 : Nat) : Int) from rfl, show (16 : Int) = ((16 : Nat) : Int) from rfl, show (8 : Int) = ((8 : Nat) : Int) from rfl, e1, e2, e3]
  have p1 : (2 : Int) ^ 24 = 16777216 := rfl
  have p2 : (2 : Int) ^ 16 = 65536 := rfl
  have p3 : (2 : Int) ^ 8 = 256 := rfl
  rw [p1, p2, p3, wrap_u8, wrap_u8, wrap_u8, wrap_u8]
  have q1 : (n : Int) / 16777216 % 256 = ((n / 16777216 % 256 : Nat) : Int) := by omega
  have q2 : (n : Int) / 65536 % 256 = ((n / 65536 % 256 : Nat) : Int) := by omega
  have q3 : (n : Int) / 256 % 256 = ((n / 256 % 256 : Nat) : Int) := by omega
  have q4 : (n : Int) % 256 = ((n % 256 : Nat) : Int) := by omega
  rw [q1, q2, q3, q4]
  rfl

theorem or8 (z c : Nat) (hz : z < 16777216) (hc : c < 256) : iOr .u32 (iShl .u32 (z : Int) 8) (IntKind.wrap .u32 (c : Int)) = ((z * 256 + c : Nat) : Int) := by
  have e1 : iShl .u32 (z : Int) 8 = ((z * 256 : Nat) : Int) := by
    have := iShl_at .u32 (z : Int) 8 (by decide)
    rw [show (8 : Int) = ((8 : Nat) : Int) from rfl, this, wrap_u32, show (2 : Int) ^ 8 = 256 from rfl]
    omega
  rw [e1, wrap_u32]
  have e2 : ((c : Int) % 4294967296) = (c : Int) := by omega
  rw [e2]
  unfold iOr
  rw [wrap_u32]
  have e3 : (BitVec.ofInt (IntKind.bits .u32) ((z * 256 : Nat) : Int) ||| BitVec.ofInt (IntKind.bits .u32) ((c : Nat) : Int)).toNat = z * 256 + c := by
    rw [BitVec.toNat_or, BitVec.ofInt_natCast, BitVec.ofInt_natCast, BitVec.toNat_ofNat, BitVec.toNat_ofNat]
    show (z * 256 % 4294967296 ||| c % 4294967296) = z * 256 + c
    rw [Nat.mod_eq_of_lt (by omega), Nat.mod_eq_of_lt (by omega)]
    have := Nat.two_pow_add_eq_or_of_lt (i := 8) (b := c) (by omega) z
    rw [show 2 ^ 8 * z = z * 256 from by omega] at this
    exact this.symm
  rw [e3]
  omega

/-! ### what is taken -/
theorem take_ok (xs r : List Int) (n : Int) (h : n = (xs.length : Int)) : FwtakeF (xs ++ r) false n = xs ∧ FwtakeF_1 (xs ++ r) false n = r ∧ FwtakeF_2 (xs ++ r) false n = false := by
  subst h
  unfold FwtakeF FwtakeF_1 FwtakeF_2
  have h0 : (decide (((xs.length : Nat) : Int) > (((xs ++ r).length : Nat) : Int))) = false := decide_eq_false (by rw [List.length_append]; omega)
  refine ⟨?_, ?_, ?_⟩
  · rw [sel_false, sel_f h0, Int.toNat_natCast, List.drop_zero, Nat.sub_zero, List.take_left']
    rfl
  · rw [sel_false, sel_f h0, Int.toNat_natCast, List.drop_left' rfl, List.take_of_length_le]
    rw [List.length_append]; omega
  · rw [sel_false, sel_f h0]

theorem u32_read (n : Nat) (h : n < 4294967296) (r : List Int) : FwU32 (be4 n ++ r) false = (n : Int) ∧ FwU32_1 (be4 n ++ r) false = r ∧ FwU32_2 (be4 n ++ r) false = false := by
  obtain ⟨h1, h2, h3⟩ := take_ok (be4 n) r 4 rfl
  refine ⟨?_, h2, h3⟩
  have f0 : ∀ k z, FwU32l0 (be4 n ++ r) false k z = iOr .u32 (iShl .u32 z 8) (IntKind.wrap .u32 ((be4 n).getD k 0)) := fun k z => by unfold FwU32l0; rw [h1]
  unfold FwU32
  rw [h1]
  show itr _ 4 0 = _
  rw [itr_succ, itr_succ, itr_succ, itr_succ, itr_zero, f0, f0, f0, f0]
  show iOr .u32 (iShl .u32 (iOr .u32 (iShl .u32 (iOr .u32 (iShl .u32 (iOr .u32 (iShl .u32 ((0 : Nat) : Int) 8) (IntKind.wrap .u32 ((n / 16777216 % 256 : Nat) : Int))) 8) (IntKind.wrap .u32 ((n / 65536 % 256 : Nat) : Int))) 8) (IntKind.wrap .u32 ((n / 256 % 256 : Nat) : Int))) 8) (IntKind.wrap .u32 ((n % 256 : Nat) : Int)) = _
  rw [or8 _ _ (by omega) (by omega), or8 _ _ (by omega) (by omega), or8 _ _ (by omega) (by omega), or8 _ _ (by omega) (by omega)]
  congr 1
  omega

theorem text_read (s r : List Int) (h : s.length ≤ 16384) : FwText (be4 s.length ++ s ++ r) false = bytesOf s ∧ FwText_1 (be4 s.length ++ s ++ r) false = r ∧ FwText_2 (be4 s.length ++ s ++ r) false = false := by
  rw [List.append_assoc]
  obtain ⟨h1, h2, h3⟩ := u32_read s.length (by omega) (s ++ r)
  unfold FwText FwText_1 FwText_2
  rw [h1, h2, h3]
  have h0 : (decide (((s.length : Nat) : Int) > 16384)) = false := decide_eq_false (by omega)
  obtain ⟨h4, h5, h6⟩ := take_ok s r (IntKind.wrap .i64 ((s.length : Nat) : Int)) (wrap_small (by omega) (by omega))
  rw [sel_f h0, sel_f h0, sel_f h0, h4, h5, h6]
  exact ⟨rfl, rfl, rfl⟩

/-! ### zeros ahead -/
def lz : List Int → Nat
  | [] => 0
  | x :: r => if x = 0 then lz r + 1 else 0
def trim (p : List Int) : List Int := p.drop (lz p)
theorem lz_le : ∀ p, lz p ≤ p.length
  | [] => Nat.le_refl _
  | x :: r => by
    have := lz_le r
    unfold lz
    split <;> simp <;> omega
theorem lz_zero : ∀ {p : List Int} {j : Nat}, j < lz p → p.getD j 0 = 0
  | [], j, h => absurd h (Nat.not_lt_zero j)
  | x :: r, j, h => by
    unfold lz at h
    split at h
    · rename_i hx
      cases j with
      | zero => exact hx
      | succ j => exact lz_zero (p := r) (by omega)
    · exact absurd h (Nat.not_lt_zero j)
theorem lz_stop : ∀ {p : List Int}, lz p < p.length → p.getD (lz p) 0 ≠ 0
  | [], h => absurd h (Nat.lt_irrefl 0)
  | x :: r, h => by
    unfold lz at h ⊢
    split at h
    · rename_i hx
      rw [if_pos hx]
      exact lz_stop (p := r) (by simp at h; omega)
    · rename_i hx
      rw [if_neg hx]
      exact hx
theorem lz_zeros (p : List Int) : ∀ z, lz (List.replicate z 0 ++ p) = z + lz p
  | 0 => by simp
  | z + 1 => by
    rw [List.replicate_succ, List.cons_append]
    show (if (0 : Int) = 0 then _ else _) = _
    rw [if_pos rfl, lz_zeros p z]
    omega
theorem trim_zeros (p : List Int) (z : Nat) : trim (List.replicate z 0 ++ p) = trim p := by
  unfold trim
  rw [lz_zeros, ← List.drop_drop]
  rw [List.drop_left' (by simp)]
theorem trim_head (p : List Int) : trim p = [] ∨ (trim p).getD 0 0 ≠ 0 := by
  by_cases h : lz p < p.length
  · right
    have := lz_stop h
    unfold trim
    rw [List.getD_eq_getElem?_getD, List.getElem?_drop] at *
    simpa using this
  · left
    exact List.drop_eq_nil_of_le (by omega)
theorem trim_self {p : List Int} (h : p = [] ∨ p.getD 0 0 ≠ 0) : trim p = p := by
  rcases h with rfl | h
  · rfl
  · cases p with
    | nil => rfl
    | cons x r =>
      have hx : x ≠ 0 := h
      unfold trim lz
      rw [if_neg hx]
      rfl
theorem trim_le (p : List Int) : (trim p).length ≤ p.length := by unfold trim; rw [List.length_drop]; omega

/-! ### whole numbers -/
def pad (t : List Int) : List Int := sel (decide (t.getD 0 0 ≥ 128)) (0 :: t) t
def enc (p : List Int) : List Int := be4 (pad (trim p)).length ++ pad (trim p)
theorem pad_le (t : List Int) : (pad t).length ≤ t.length + 1 := by
  unfold pad
  cases decide (t.getD 0 0 ≥ 128) <;> simp [sel_true, sel_false]
theorem dg_pad {t : List Int} (h : Dg t) : Dg (pad t) := by
  unfold pad
  cases decide (t.getD 0 0 ≥ 128)
  · rw [sel_false]; exact h
  · rw [sel_true]
    intro x hx
    rcases List.mem_cons.1 hx with rfl | hx
    · decide
    · exact h x hx

theorem int_loop (p : List Int) : ∀ k, itr FwwIntnl0 k p = p.drop k
  | 0 => by rw [itr_zero]; rfl
  | k + 1 => by
    rw [itr_succ, int_loop p k]
    unfold FwwIntnl0
    rw [List.drop_drop, List.take_of_length_le (by simp only [List.length_drop]; omega)]
theorem int_stop (p : List Int) (k : Nat) : FwwIntns0 p k = !(p.getD k 0 == 0) := by
  unfold FwwIntns0
  rw [int_loop]
  have : (p.drop k).getD 0 0 = p.getD k 0 := by simp [List.getD_eq_getElem?_getD, List.getElem?_drop]
  rw [this]
  cases p.getD k 0 == 0 <;> rfl
theorem int_first (p : List Int) : fstB (FwwIntns0 p) p.length = lz p := by
  by_cases h : lz p < p.length
  · refine fst_found h (fun j hj => ?_) ?_
    · rw [int_stop, lz_zero hj]; rfl
    · rw [int_stop]
      have := lz_stop h
      rw [beq_eq_false_iff_ne.2 this]
      rfl
  · have h1 := lz_le p
    have h2 : lz p = p.length := by omega
    rw [fst_none (fun j hj => by rw [int_stop, lz_zero (by omega)]; rfl), h2]

theorem u32n_at (n : Nat) (h : n < 4294967296) : FwwU32n (IntKind.wrap .u32 ((n : Nat) : Int)) = be4 n := be4_of n h

/-- What the three ways of it write. -/
theorem int_ways (t : List Int) (h : t.length ≤ 1000000000) : (sel (decide (((((t).length : Nat) : Int) : Int) > 0)) (sel (decide (((t).getD 0 0 : Int) ≥ 128)) (((FwwU32n (IntKind.wrap .u32 ((((t).length) + 1 : Nat) : Int))) ++ [0]) ++ t) ((FwwU32n (IntKind.wrap .u32 (((t).length : Nat) : Int))) ++ t)) ((FwwU32n (IntKind.wrap .u32 (((t).length : Nat) : Int))) ++ t)) = be4 (pad t).length ++ pad t ∧
    (sel (decide (((((t).length : Nat) : Int) : Int) > 0)) (sel (decide (((t).getD 0 0 : Int) ≥ 128)) (5 + ((t).length)) (4 + ((t).length))) (4 + ((t).length))) = (be4 (pad t).length ++ pad t).length := by
  unfold pad
  rw [u32n_at _ (by omega), u32n_at _ (by omega)]
  cases t with
  | nil => exact ⟨rfl, rfl⟩
  | cons a r =>
    rw [sel_t (b := decide ((((a :: r).length : Nat) : Int) > 0)) (decide_eq_true (by simp only [List.length_cons]; omega)), sel_t (b := decide ((((a :: r).length : Nat) : Int) > 0)) (decide_eq_true (by simp only [List.length_cons]; omega))]
    cases decide ((a :: r).getD 0 0 ≥ 128)
    · simp only [sel_false]
      exact ⟨trivial, by simp [be4]; omega⟩
    · simp only [sel_true]
      exact ⟨by simp, by simp [be4]; omega⟩

theorem int_writes (p : List Int) (h : p.length ≤ 1000000000) : FwwIntn p = enc p ∧ FwwIntnn0 p = (enc p).length := by
  have hw := int_ways (trim p) (by have := trim_le p; omega)
  unfold FwwIntn FwwIntnn0 enc
  rw [int_first]
  cases hb : Nat.blt (lz p) p.length
  · have h1 := lz_le p
    have h2 : lz p = p.length := by
      rcases Nat.lt_or_ge (lz p) p.length with h3 | h3
      · rw [blt_true h3] at hb; cases hb
      · omega
    rw [sel_false, sel_false, int_loop, ← h2]
    exact hw
  · rw [sel_true, sel_true, int_loop]
    exact hw

theorem int_writes_z (p : List Int) (h : p.length ≤ 1000000000) : FwwIntnz p = enc p := by
  obtain ⟨h1, h2⟩ := int_writes p h
  have key : ∀ (b c d b' c' d' : Bool) (x1 x2 x3 y1 y2 y3 : List Int) (n1 n2 n3 m1 m2 m3 : Nat), x1.length = n1 → x2.length = n2 → x3.length = n3 → y1.length = m1 → y2.length = m2 → y3.length = m3 →
      sel b (sel c (sel d (part1 x1 n1 0 n1) (part1 x2 n2 0 n2)) (part1 x3 n3 0 n3)) (sel c' (sel d' (part1 y1 m1 0 m1) (part1 y2 m2 0 m2)) (part1 y3 m3 0 m3)) =
      sel b (sel c (sel d x1 x2) x3) (sel c' (sel d' y1 y2) y3) := by
    intro b c d b' c' d' x1 x2 x3 y1 y2 y3 n1 n2 n3 m1 m2 m3 e1 e2 e3 e4 e5 e6
    rw [part1_all e1, part1_all e2, part1_all e3, part1_all e4, part1_all e5, part1_all e6]
  have hlen : ∀ (n : Int) (t : List Int), (FwwU32n n ++ t).length = 4 + t.length := fun n t => by rw [List.length_append]; rfl
  have hlen' : ∀ (n : Int) (t : List Int), (FwwU32n n ++ [0] ++ t).length = 5 + t.length := fun n t => by rw [List.length_append, List.length_append]; rfl
  rw [← h1]
  unfold FwwIntnz FwwIntn
  exact key _ _ _ true _ _ _ _ _ _ _ _ _ _ _ _ _ _ (hlen' _ _) (hlen _ _) (hlen _ _) (hlen' _ _) (hlen _ _) (hlen _ _)

theorem int_read (t r : List Int) (hd : Dg t) (h : t.length < 16384) (h0 : t = [] ∨ t.getD 0 0 ≠ 0) : FwInt (be4 (pad t).length ++ pad t ++ r) false = t ∧ FwInt_1 (be4 (pad t).length ++ pad t ++ r) false = r ∧ FwInt_2 (be4 (pad t).length ++ pad t ++ r) false = false := by
  have hp := pad_le t
  obtain ⟨h1, h2, h3⟩ := text_read (pad t) r (by omega)
  unfold FwInt FwInt_1 FwInt_2
  rw [h1, h2, h3, bytesI_bytesOf (dg_pad hd), size_bytesOf]
  cases t with
  | nil => exact ⟨rfl, rfl, rfl⟩
  | cons a r' =>
    have ha : a ≠ 0 := by
      rcases h0 with h0 | h0
      · cases h0
      · exact h0
    obtain ⟨⟨ha0, ha1⟩, _⟩ := dg_cons hd
    by_cases h128 : a ≥ 128
    · have e : pad (a :: r') = 0 :: a :: r' := sel_t (decide_eq_true h128)
      rw [e]
      have c1 : (decide (((((0 :: a :: r' : List Int).length : Nat) : Int) : Int) > 0)) = true := decide_eq_true (by simp only [List.length_cons]; omega)
      have c2 : (decide ((((0 :: a :: r' : List Int)).getD 0 0 : Int) ≥ 128)) = false := rfl
      have c3 : ((((0 :: a :: r' : List Int)).getD 0 0 : Int) == 0) = true := rfl
      have c4 : (((((0 :: a :: r' : List Int).length : Nat) : Int) : Int) == 1) = false := by simp only [List.length_cons, beq_eq_false_iff_ne]; omega
      have c5 : (decide ((((0 :: a :: r' : List Int)).getD 1 0 : Int) < 128)) = false := decide_eq_false (by show ¬ a < 128; omega)
      simp only [sel_t c1, sel_f c2, sel_t c3, sel_f c4, sel_f c5]
      refine ⟨?_, trivial, trivial⟩
      rw [part1_eq rfl]
      simp
    · have e : pad (a :: r') = a :: r' := sel_f (decide_eq_false (by show ¬ a ≥ 128; omega))
      rw [e]
      have c1 : (decide (((((a :: r' : List Int).length : Nat) : Int) : Int) > 0)) = true := decide_eq_true (by simp only [List.length_cons]; omega)
      have c2 : (decide ((((a :: r' : List Int)).getD 0 0 : Int) ≥ 128)) = false := decide_eq_false (by show ¬ a ≥ 128; omega)
      have c3 : ((((a :: r' : List Int)).getD 0 0 : Int) == 0) = false := by simpa using ha
      simp only [sel_t c1, sel_f c2, sel_f c3]
      exact ⟨part1_all rfl, trivial, trivial⟩

/-! ### texts -/
theorem u32o_at (k : Nat) (xs : List Int) (n : Nat) (h : n < 4294967296) : FwwU32 k xs (IntKind.wrap .u32 ((n : Nat) : Int)) = xs ++ be4 n := congrArg (xs ++ ·) (be4_of n h)
theorem text_writes (k : Nat) (xs : List Int) (s : ByteArray) (h : s.size < 4294967296) : FwwText k xs s = xs ++ be4 s.size ++ bytesI s := by
  unfold FwwText
  rw [u32o_at _ _ _ h]
theorem textn_writes (s : ByteArray) (h : s.size < 4294967296) : FwwTextn s = be4 s.size ++ bytesI s := by
  unfold FwwTextn
  rw [u32n_at _ h]
theorem textz_writes (xs : List Int) (s : ByteArray) (h : s.size < 4294967296) : FwwTextz xs.length xs s = xs ++ be4 s.size ++ bytesI s := by
  unfold FwwTextz
  rw [u32o_at _ _ _ h, part1_all]
  rw [List.length_append, List.length_append, bytesI_length]
  rfl

/-! ### the first look -/
theorem end_at : FwEnd [] false = true := rfl
theorem fit_true : Fwfit = true := by
  obtain ⟨h1, h2⟩ := int_writes (part1 [128] 1 0 1) (by decide)
  have h3 : FwwTextz (FwwIntnn0 (part1 [128] 1 0 1)) (FwwIntn (part1 [128] 1 0 1)) (⟨#[97, 98]⟩ : ByteArray) = be4 (pad [128]).length ++ pad [128] ++ (be4 2 ++ [97, 98]) := by
    rw [h1, h2, textz_writes _ _ (by decide)]
    rfl
  obtain ⟨h4, h5, h6⟩ := int_read [128] (be4 2 ++ [97, 98]) (by intro x hx; simp at hx; omega) (by decide) (.inr (by decide))
  obtain ⟨h7, h8, h9⟩ := text_read [97, 98] [] (by decide)
  have e : be4 2 ++ [97, 98] = be4 ([97, 98] : List Int).length ++ [97, 98] ++ [] := rfl
  unfold Fwfit
  rw [h3, h4, h5, h6, e, h7, h8, h9, end_at]
  have h10 : strEq (bytesOf [97, 98]) (⟨#[97, 98]⟩ : ByteArray) = true := strEq_self _
  rw [h10]
  rfl

end Go.Vm
