/- Whole numbers and lists of names: the code's and the document's reader read the same. -/
import Derived.Test.YtclfmaifcelcpaaDoorPl4
set_option linter.unusedVariables false
set_option linter.unusedSimpArgs false
namespace Go.Vm
open Go

/-! ### whole numbers -/
theorem pad_eq {t : List Int} : pad t = if t.getD 0 0 ≥ 128 then 0 :: t else t := by
  unfold pad
  by_cases h : t.getD 0 0 ≥ 128
  · rw [sel_t (decide_eq_true h), if_pos h]
  · rw [sel_f (decide_eq_false h), if_neg h]
/-- Is a number written as it may be? -/
theorem norm_self (x : List Int) (h : ¬ x.getD 0 0 ≥ 128) : pad (trim x) = x ↔ ¬ (x.length > 0 ∧ x.getD 0 0 = 0 ∧ (x.length = 1 ∨ x.getD 1 0 < 128)) := by
  cases x with
  | nil => exact ⟨fun _ ⟨h, _⟩ => by simp at h, fun _ => by rw [pad_eq]; rfl⟩
  | cons a r =>
    have ha : ¬ a ≥ 128 := h
    by_cases h0 : a = 0
    · subst h0
      have ht : trim (0 :: r) = trim r := by
        show (0 :: r).drop (lz (0 :: r)) = r.drop (lz r)
        rw [show lz (0 :: r) = lz r + 1 from if_pos rfl]
        rfl
      rw [ht, pad_eq]
      cases r with
      | nil => exact ⟨fun h => (by cases h), fun h => absurd ⟨by simp, rfl, .inl rfl⟩ h⟩
      | cons b r =>
        by_cases hb : b ≥ 128
        · have hb0 : b ≠ 0 := by omega
          rw [trim_self (p := b :: r) (.inr hb0), if_pos (show (b :: r).getD 0 0 ≥ 128 from hb)]
          refine ⟨fun _ ⟨_, _, h⟩ => ?_, fun _ => rfl⟩
          rcases h with h | h
          · simp at h
          · have : b < 128 := h
            omega
        · refine ⟨fun he => ?_, fun h => absurd ⟨by simp, rfl, .inr (by show b < 128; omega)⟩ h⟩
          exfalso
          by_cases hb0 : b = 0
          · have h1 := trim_le r
            have h2 : trim (b :: r) = trim r := by
              show (b :: r).drop (lz (b :: r)) = r.drop (lz r)
              rw [show lz (b :: r) = lz r + 1 from if_pos hb0]
              rfl
            rw [h2] at he
            have := congrArg List.length he
            simp only [List.length_cons] at this
            split at this
            · simp only [List.length_cons] at this; omega
            · omega
          · rw [trim_self (p := b :: r) (.inr hb0), if_neg (show ¬ (b :: r).getD 0 0 ≥ 128 from hb)] at he
            have := congrArg List.length he
            simp at this
    · rw [trim_self (p := a :: r) (.inr h0), pad_eq, if_neg (show ¬ (a :: r).getD 0 0 ≥ 128 from ha)]
      exact ⟨fun _ ⟨_, h, _⟩ => h0 h, fun _ => rfl⟩
theorem intBad_eq (x : List Int) : intBad x = true ↔ (x.getD 0 0 ≥ 128 ∨ pad (trim x) ≠ x) := by
  unfold intBad
  by_cases h : x.getD 0 0 ≥ 128
  · rw [decide_eq_true h, Bool.true_or]
    exact ⟨fun _ => .inl h, fun _ => rfl⟩
  · have := norm_self x h
    rw [Bool.or_eq_true, decide_eq_true_eq]
    simp only [h, false_or, ne_eq, this, Classical.not_not]
    simp only [Bool.and_eq_true, Bool.or_eq_true, decide_eq_true_eq, beq_iff_eq]
    exact ⟨fun ⟨⟨a, b⟩, c⟩ => ⟨a, b, c⟩, fun ⟨a, b, c⟩ => ⟨⟨a, b⟩, c⟩⟩

/-- The code's. -/
theorem int_at {st : Rd} (h : RdOk st) : FwInt (rb st) (rbad st) = intV st ∧ FwInt_1 (rb st) (rbad st) = rb (intN st) ∧ FwInt_2 (rb st) (rbad st) = rbad (intN st) := by
  obtain ⟨h1, h2, h3⟩ := text_at h
  obtain ⟨hd, hl⟩ := h.textV
  have hn := h.textN
  unfold FwInt FwInt_1 FwInt_2 intV intN
  rw [h1, h2, h3, bytesI_bytesOf hd, size_bytesOf]
  generalize textV st = x at *
  generalize textN st = s at *
  obtain ⟨_, t2, t3⟩ := take_at s 1073741824 (by decide)
  rw [nx_none hn (n := (1073741824 : Int).toNat) (by decide)] at t2 t3
  rw [t2, t3]
  have p0 : part1 x x.length 0 x.length = x := part1_all rfl
  have p1 : part1 x x.length 1 (x.length - 1) = x.drop 1 := by rw [part1_eq rfl, List.take_of_length_le (by rw [List.length_drop]; exact Nat.le_refl _)]
  rw [p0, p1]
  cases x with
  | nil => exact ⟨rfl, rfl, rfl⟩
  | cons a r =>
    have c0 : decide ((((a :: r).length : Nat) : Int) > 0) = true := decide_eq_true (by rw [List.length_cons]; omega)
    rw [c0, sel_true, sel_true, sel_true]
    by_cases ha : a ≥ 128
    · have b0 : intBad (a :: r) = true := by unfold intBad; rw [show (a :: r).getD 0 0 = a from rfl, decide_eq_true ha]; rfl
      rw [b0]
      have c1 : decide ((a :: r).getD 0 0 ≥ 128) = true := decide_eq_true ha
      rw [c1, sel_true, sel_true, sel_true]
      exact ⟨rfl, rfl, rfl⟩
    · have c1 : decide ((a :: r).getD 0 0 ≥ 128) = false := decide_eq_false ha
      rw [c1, sel_false, sel_false, sel_false]
      by_cases h0 : a = 0
      · subst h0
        have c2 : ((0 :: r).getD 0 0 == (0 : Int)) = true := rfl
        rw [c2, sel_true, sel_true, sel_true]
        cases r with
        | nil => exact ⟨rfl, rfl, rfl⟩
        | cons b r =>
          have c3 : ((((0 :: b :: r).length : Nat) : Int) == 1) = false := by
            rw [beq_eq_false_iff_ne]; simp only [List.length_cons]; omega
          rw [c3, sel_false, sel_false, sel_false]
          by_cases hb : b < 128
          · have c4 : decide ((0 :: b :: r).getD 1 0 < 128) = true := decide_eq_true hb
            have b0 : intBad (0 :: b :: r) = true := by
              unfold intBad
              rw [c1, c4, c2]
              simp
            rw [c4, b0, sel_true, sel_true, sel_true]
            exact ⟨rfl, rfl, rfl⟩
          · have c4 : decide ((0 :: b :: r).getD 1 0 < 128) = false := decide_eq_false hb
            have b0 : intBad (0 :: b :: r) = false := by
              unfold intBad
              rw [c1, c4]
              simp
            rw [c4, b0, sel_false, sel_false, sel_false]
            exact ⟨rfl, rfl, rfl⟩
      · have c2 : ((a :: r).getD 0 0 == (0 : Int)) = false := by rw [beq_eq_false_iff_ne]; exact h0
        have b0 : intBad (a :: r) = false := by
          unfold intBad
          rw [c1, c2]
          simp
        rw [c2, sel_false, sel_false, sel_false, b0]
        refine ⟨?_, rfl, rfl⟩
        show _ = if a = 0 then _ else _
        rw [if_neg h0]

theorem rInt_stop (p : List Int) (k : Nat) : FwrInts0 p k = !(p.getD k 0 == 0) := by
  unfold FwrInts0
  cases (p.getD k 0 == 0) <;> rfl
theorem stop_lz {p : List Int} {S : Nat → Bool} (hS : ∀ k, S k = !(p.getD k 0 == 0)) : fstB S p.length = lz p ∧ Nat.blt (lz p) p.length = decide (lz p < p.length) := by
  have hle := lz_le p
  refine ⟨?_, ?_⟩
  · by_cases h : lz p < p.length
    · refine fst_found h (fun j hj => ?_) ?_
      · rw [hS, lz_zero hj]; rfl
      · rw [hS]
        have := lz_stop h
        simpa using this
    · have e : lz p = p.length := by omega
      rw [e]
      refine fst_none fun j hj => ?_
      rw [hS, lz_zero (by omega)]
      rfl
  · by_cases h : lz p < p.length
    · rw [blt_true h, decide_eq_true h]
    · rw [show lz p = p.length by omega, blt_self, decide_eq_false (by omega)]
theorem rU32_at (n : Nat) (h : n < 4294967296) : FwrU32 ((n : Nat) : Int) = be4 n := by
  unfold FwrU32 be4
  have q1 : iQuo .i64 ((n : Nat) : Int) 16777216 = ((n / 16777216 : Nat) : Int) := iQuo_nat (b := 16777216) (by omega)
  have q2 : iQuo .i64 ((n : Nat) : Int) 65536 = ((n / 65536 : Nat) : Int) := iQuo_nat (b := 65536) (by omega)
  have q3 : iQuo .i64 ((n : Nat) : Int) 256 = ((n / 256 : Nat) : Int) := iQuo_nat (b := 256) (by omega)
  rw [q1, q2, q3, wrap_u8, wrap_u8, wrap_u8, wrap_u8]
  refine List.ext_getElem rfl fun i h1 h2 => ?_
  match i, h1 with
  | 0, _ => show ((n / 16777216 : Nat) : Int) % 256 = ((n / 16777216 % 256 : Nat) : Int); omega
  | 1, _ => show ((n / 65536 : Nat) : Int) % 256 = ((n / 65536 % 256 : Nat) : Int); omega
  | 2, _ => show ((n / 256 : Nat) : Int) % 256 = ((n / 256 % 256 : Nat) : Int); omega
  | 3, _ => show ((n : Nat) : Int) % 256 = ((n % 256 : Nat) : Int); omega
theorem rText_at (s : ByteArray) (h : s.size < 4294967296) : FwrText s = be4 s.size ++ bytesI s := by
  unfold FwrText
  rw [rU32_at _ h]
theorem bytesOf_cons0 (t : List Int) : (⟨#[0]⟩ : ByteArray) ++ bytesOf t = bytesOf (0 :: t) := by
  apply ByteArray.ext
  rw [ByteArray.data_append]
  unfold bytesOf
  simp
theorem bytesOf_head {t : List Int} (h : Dg t) : byteAt (bytesOf t) 0 = t.getD 0 0 := by
  unfold byteAt
  rw [bytesI_bytesOf h]
  rfl
theorem rInt_ways {t : List Int} (h : Dg t) (hl : t.length ≤ 800000000) :
    (sel (!(strEq (bytesOf t) (⟨#[]⟩ : ByteArray))) (FwrText (sel (decide ((byteAt (bytesOf t) 0 : Int) ≥ 128)) ((⟨#[0]⟩ : ByteArray) ++ bytesOf t) (bytesOf t))) (FwrText (bytesOf t))) = be4 (pad t).length ++ pad t ∧
    (sel (!(strEq (bytesOf t) (⟨#[]⟩ : ByteArray))) (4 + (sel (decide ((byteAt (bytesOf t) 0 : Int) ≥ 128)) ((⟨#[0]⟩ : ByteArray) ++ bytesOf t) (bytesOf t)).size) (4 + (bytesOf t).size)) = (be4 (pad t).length ++ pad t).length := by
  have hp : Dg (pad t) := dg_pad h
  have hpl := pad_le t
  have key : FwrText (bytesOf (pad t)) = be4 (pad t).length ++ pad t := by
    rw [rText_at _ (by rw [size_bytesOf]; omega), size_bytesOf, bytesI_bytesOf hp]
  have key2 : 4 + (bytesOf (pad t)).size = (be4 (pad t).length ++ pad t).length := by
    rw [size_bytesOf, List.length_append]; rfl
  rw [bytesOf_head h, bytesOf_cons0]
  have e : (sel (decide (t.getD 0 0 ≥ 128)) (bytesOf (0 :: t)) (bytesOf t)) = bytesOf (pad t) := by
    unfold pad
    cases decide (t.getD 0 0 ≥ 128) <;> rfl
  rw [e, key, key2]
  cases ht : strEq (bytesOf t) (⟨#[]⟩ : ByteArray) with
  | false => exact ⟨rfl, rfl⟩
  | true =>
    have h1 := strEq_eq ht
    have h2 : t = [] := by
      have := congrArg ByteArray.size h1
      rw [size_bytesOf] at this
      exact List.length_eq_zero_iff.1 this
    subst h2
    exact ⟨key, key2⟩
theorem rInt_at {p : List Int} (h : Dg p) (hl : p.length ≤ 800000000) : FwrInt p = enc p ∧ FwrIntn0 p = (enc p).length := by
  obtain ⟨h1, h2⟩ := stop_lz (p := p) (rInt_stop p)
  have hle := lz_le p
  unfold FwrInt FwrIntn0 enc
  rw [h1, h2]
  have e1 : (p.drop (lz p)).take (p.length - lz p) = trim p := by
    rw [List.take_of_length_le (by rw [List.length_drop]; exact Nat.le_refl _)]; rfl
  rw [e1]
  obtain ⟨r1, r2⟩ := rInt_ways (t := trim p) (dg_drop _ h) (by have := trim_le p; omega)
  by_cases hlt : lz p < p.length
  · rw [decide_eq_true hlt, sel_true, sel_true]
    exact ⟨r1, r2⟩
  · have he : lz p = p.length := by omega
    have e2 : (p.drop p.length).take (p.length - p.length) = trim p := by
      rw [Nat.sub_self, List.take_zero]
      unfold trim
      rw [he, List.drop_length]
    rw [e2, decide_eq_false hlt, sel_false, sel_false]
    exact ⟨r1, r2⟩

/-- The document's. -/
theorem cint_at {p : List Int} {k : Int} (b : Bool) (hd : Dg p) (h : CurOk p k) : FwcInt p k b = intV (cst p k b) ∧ cst p (FwcInt_1 p k b) (FwcInt_2 p k b) = intN (cst p k b) := by
  have hok := cst_ok hd h b
  obtain ⟨h1, h2⟩ := ctext_at b hd h
  obtain ⟨hx, hl⟩ := hok.textV
  have hs : ∀ j, FwcInts0 p k b j = !((textV (cst p k b)).getD j 0 == 0) := by
    intro j
    unfold FwcInts0
    rw [h1, bytesI_bytesOf hx]
    cases ((textV (cst p k b)).getD j 0 == 0) <;> rfl
  unfold FwcInt FwcInt_1 FwcInt_2 intV intN
  rw [h1, size_bytesOf, bytesI_bytesOf hx]
  obtain ⟨s1, s2⟩ := stop_lz hs
  rw [s1, s2, ← h2]
  generalize textV (cst p k b) = x at *
  have p0 : part1 x x.length 0 x.length = x := part1_all rfl
  have pk : ∀ j, part1 x x.length (0 + j * 1) (x.length - j) = x.drop j := fun j => by
    rw [part1_eq rfl, Nat.zero_add, Nat.mul_one, List.take_of_length_le (by rw [List.length_drop]; exact Nat.le_refl _)]
  obtain ⟨r1, r2⟩ := rInt_at hx (by omega)
  have t0 : (x.drop 0).take x.length = x := by rw [List.drop_zero, List.take_length]
  have rt : FwrText (bytesOf x) = be4 x.length ++ x := by rw [rText_at _ (by rw [size_bytesOf]; omega), size_bytesOf, bytesI_bytesOf hx]
  have t1 : ((be4 x.length ++ x).drop 0).take (4 + x.length) = be4 x.length ++ x := by rw [List.drop_zero, List.take_of_length_le (by rw [List.length_append]; exact Nat.le_refl _)]
  have t2 : ((enc x).drop 0).take (enc x).length = enc x := by rw [List.drop_zero, List.take_length]
  rw [p0, pk, pk, r1, r2, t2, t0, rt, size_bytesOf, t1, List.drop_length]
  have hne : strEq (bytesOf (enc x)) (bytesOf (be4 x.length ++ x)) = decide (pad (trim x) = x) := by
    have hp : Dg (pad (trim x)) := dg_pad (dg_drop _ hx)
    by_cases he : pad (trim x) = x
    · rw [decide_eq_true he]
      unfold enc
      rw [he]
      exact strEq_self _
    · rw [decide_eq_false he]
      cases hq : strEq (bytesOf (enc x)) (bytesOf (be4 x.length ++ x)) with
      | false => rfl
      | true =>
        exfalso
        apply he
        have h3 := congrArg bytesI (strEq_eq hq)
        rw [bytesI_bytesOf (show Dg (enc x) from dg_app (dg_be4 _) hp), bytesI_bytesOf (dg_app (dg_be4 _) hx)] at h3
        unfold enc at h3
        exact (List.append_inj h3 rfl).2
  rw [hne]
  have c0 : ∀ {α : Type} (u v : α), sel (decide ((((x.length : Nat) : Int) : Int) > 0)) (sel (decide ((x.getD 0 0 : Int) ≥ 128)) u (sel (!(decide (pad (trim x) = x))) u v)) (sel (!(decide (pad (trim x) = x))) u v) = if intBad x then u else v := by
    intro α u v
    have hb := intBad_eq x
    by_cases h128 : x.getD 0 0 ≥ 128
    · have hlen : x.length > 0 := by
        cases x with
        | nil => exact absurd h128 (by decide)
        | cons _ _ => simp
      rw [decide_eq_true (show ((x.length : Nat) : Int) > 0 by omega), decide_eq_true h128, sel_true, sel_true, if_pos (hb.2 (.inl h128))]
    · rw [decide_eq_false h128, sel_false]
      have : ∀ c : Bool, sel c (sel (!(decide (pad (trim x) = x))) u v) (sel (!(decide (pad (trim x) = x))) u v) = sel (!(decide (pad (trim x) = x))) u v := fun c => by cases c <;> rfl
      rw [this]
      by_cases he : pad (trim x) = x
      · have : ¬ (intBad x = true) := fun hq => (hb.1 hq).elim h128 (fun hq => hq he)
        rw [decide_eq_true he, if_neg this]
        rfl
      · rw [decide_eq_false he, if_pos (hb.2 (.inr he))]
        rfl
  rw [c0, c0, c0]
  have hlz := lz_le x
  refine ⟨?_, ?_⟩
  · by_cases hib : intBad x = true
    · rw [if_pos hib, if_pos hib, if_pos hib]
      cases decide (lz x < x.length) <;> rfl
    · rw [if_neg hib, if_neg hib, if_neg hib]
      have hv : x.drop (lz x) = if x.getD 0 1 = 0 then x.drop 1 else x := by
        have hq : ¬ (x.getD 0 0 ≥ 128) ∧ pad (trim x) = x := ⟨fun hh => hib ((intBad_eq x).2 (.inl hh)), Classical.byContradiction fun hh => hib ((intBad_eq x).2 (.inr hh))⟩
        have hn := (norm_self x hq.1).1 hq.2
        cases x with
        | nil => rfl
        | cons a r =>
          by_cases h0 : a = 0
          · subst h0
            have hr : r.getD 0 0 ≠ 0 := by
              intro hr
              apply hn
              refine ⟨by simp, rfl, .inr ?_⟩
              show r.getD 0 0 < 128
              rw [hr]; decide
            show _ = if (0 : Int) = 0 then _ else _
            rw [if_pos rfl, show lz (0 :: r) = lz r + 1 from if_pos rfl]
            have : lz r = 0 := by
              cases r with
              | nil => rfl
              | cons b r => exact if_neg hr
            rw [this]
          · show _ = if a = 0 then _ else _
            rw [if_neg h0, show lz (a :: r) = 0 from if_neg h0]
            rfl
      by_cases hlt : lz x < x.length
      · rw [decide_eq_true hlt, sel_true]; exact hv
      · rw [decide_eq_false hlt, sel_false, ← hv, List.drop_of_length_le (by omega)]
  · by_cases hib : intBad x = true
    · rw [if_pos hib, if_pos hib]
      cases FwcText_1 p k b <;> rfl
    · rw [if_neg hib, if_neg hib]

end Go.Vm
