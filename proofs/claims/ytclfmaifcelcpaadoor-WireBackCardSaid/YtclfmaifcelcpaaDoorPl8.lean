/- What is written behind other bytes, and how it is read again. -/
import Derived.Test.YtclfmaifcelcpaaDoorPl6
set_option linter.unusedVariables false
set_option linter.unusedSimpArgs false
namespace Go.Vm
open Go

/-! ### written -/
theorem into_ways (k : Nat) (xs t : List Int) (h : t.length ≤ 1000000000) : (sel (decide (((((t).length : Nat) : Int) : Int) > 0)) (sel (decide (((t).getD 0 0 : Int) ≥ 128)) (((FwwU32 k xs (IntKind.wrap .u32 ((((t).length) + 1 : Nat) : Int))) ++ [0]) ++ t) ((FwwU32 k xs (IntKind.wrap .u32 (((t).length : Nat) : Int))) ++ t)) ((FwwU32 k xs (IntKind.wrap .u32 (((t).length : Nat) : Int))) ++ t)) = xs ++ (be4 (pad t).length ++ pad t) ∧
    (sel (decide (((((t).length : Nat) : Int) : Int) > 0)) (sel (decide (((t).getD 0 0 : Int) ≥ 128)) (((k + 4) + 1) + ((t).length)) ((k + 4) + ((t).length))) ((k + 4) + ((t).length))) = k + (be4 (pad t).length ++ pad t).length := by
  unfold pad
  rw [u32o_at k xs _ (by omega), u32o_at k xs _ (by omega)]
  cases t with
  | nil => exact ⟨show (xs ++ be4 0) ++ [] = xs ++ (be4 0 ++ []) by rw [List.append_nil, List.append_nil], rfl⟩
  | cons a r =>
    rw [sel_t (b := decide ((((a :: r).length : Nat) : Int) > 0)) (decide_eq_true (by simp only [List.length_cons]; omega)), sel_t (b := decide ((((a :: r).length : Nat) : Int) > 0)) (decide_eq_true (by simp only [List.length_cons]; omega))]
    cases decide ((a :: r).getD 0 0 ≥ 128)
    · simp only [sel_false]
      exact ⟨by simp, by simp [be4]; omega⟩
    · simp only [sel_true]
      exact ⟨by simp, by simp [be4]; omega⟩
theorem into_writes (k : Nat) (xs p : List Int) (h : p.length ≤ 1000000000) : FwwInt k xs p = xs ++ enc p ∧ FwwIntn0 k xs p = k + (enc p).length := by
  have hw := into_ways k xs (trim p) (by have := trim_le p; omega)
  have hS : fstB (FwwInts0 p) p.length = lz p := int_first p
  have hL : ∀ j, itr FwwIntl0 j p = p.drop j := int_loop p
  unfold FwwInt FwwIntn0 enc
  rw [hS]
  cases hb : Nat.blt (lz p) p.length
  · have h1 := lz_le p
    have h2 : lz p = p.length := by
      rcases Nat.lt_or_ge (lz p) p.length with h3 | h3
      · rw [blt_true h3] at hb; cases hb
      · omega
    rw [sel_false, sel_false, hL, ← h2]
    exact hw
  · rw [sel_true, sel_true, hL]
    exact hw
theorem intoz_writes (xs p : List Int) (h : p.length ≤ 1000000000) : FwwIntz xs.length xs p = xs ++ enc p := by
  obtain ⟨h1, h2⟩ := into_writes xs.length xs p h
  have key : ∀ (b c d b' c' d' : Bool) (x1 x2 x3 y1 y2 y3 : List Int) (n1 n2 n3 m1 m2 m3 : Nat), x1.length = n1 → x2.length = n2 → x3.length = n3 → y1.length = m1 → y2.length = m2 → y3.length = m3 →
      sel b (sel c (sel d (part1 x1 n1 0 n1) (part1 x2 n2 0 n2)) (part1 x3 n3 0 n3)) (sel c' (sel d' (part1 y1 m1 0 m1) (part1 y2 m2 0 m2)) (part1 y3 m3 0 m3)) =
      sel b (sel c (sel d x1 x2) x3) (sel c' (sel d' y1 y2) y3) := by
    intro b c d b' c' d' x1 x2 x3 y1 y2 y3 n1 n2 n3 m1 m2 m3 e1 e2 e3 e4 e5 e6
    rw [part1_all e1, part1_all e2, part1_all e3, part1_all e4, part1_all e5, part1_all e6]
  have hlen : ∀ (n : Int) (t : List Int), (FwwU32 xs.length xs n ++ t).length = (xs.length + 4) + t.length := fun n t => by rw [List.length_append]; unfold FwwU32; rw [List.length_append]; rfl
  have hlen' : ∀ (n : Int) (t : List Int), (FwwU32 xs.length xs n ++ [0] ++ t).length = ((xs.length + 4) + 1) + t.length := fun n t => by rw [List.length_append, List.length_append]; unfold FwwU32; rw [List.length_append]; rfl
  rw [← h1]
  unfold FwwIntz FwwInt
  exact key _ _ _ true _ _ _ _ _ _ _ _ _ _ _ _ _ _ (hlen' _ _) (hlen _ _) (hlen _ _) (hlen' _ _) (hlen _ _) (hlen _ _)
theorem names_writes (k : Nat) (xs : List Int) (l : List ByteArray) (h : (joinB l (⟨#[44]⟩ : ByteArray)).size < 4294967296) : FwwNames k xs l = xs ++ be4 (joinB l (⟨#[44]⟩ : ByteArray)).size ++ bytesI (joinB l (⟨#[44]⟩ : ByteArray)) := text_writes k xs _ h

/-! ### read -/
theorem val4_be4 {n : Nat} (h : n < 4294967296) : val4 (be4 n) = n := by
  show (((n / 16777216 % 256 : Nat) : Int)).toNat * 16777216 + (((n / 65536 % 256 : Nat) : Int)).toNat * 65536 + (((n / 256 % 256 : Nat) : Int)).toNat * 256 + (((n % 256 : Nat) : Int)).toNat = n
  rw [Int.toNat_natCast, Int.toNat_natCast, Int.toNat_natCast, Int.toNat_natCast]
  omega
theorem u32_back (n : Nat) (h : n < 4294967296) (r : List Int) : u32V (some (be4 n ++ r)) = n ∧ nxO (some (be4 n ++ r)) 4 = some r := by
  have hl : 4 ≤ (be4 n ++ r).length := by rw [List.length_append]; show 4 ≤ 4 + _; omega
  unfold u32V
  have e1 : (be4 n ++ r).take 4 = be4 n := List.take_left' rfl
  have e2 : (be4 n ++ r).drop 4 = r := List.drop_left' rfl
  rw [tkO_some, nxO_some, if_pos hl, if_pos hl, e1, e2]
  exact ⟨val4_be4 h, rfl⟩
theorem text_back (s r : List Int) (h : s.length ≤ 16384) : textV (some (be4 s.length ++ s ++ r)) = s ∧ textN (some (be4 s.length ++ s ++ r)) = some r := by
  obtain ⟨h1, h2⟩ := u32_back s.length (by omega) (s ++ r)
  rw [List.append_assoc]
  unfold textV textN
  have hl : s.length ≤ (s ++ r).length := by rw [List.length_append]; omega
  rw [h1, h2, if_neg (by omega), if_neg (by omega), tkO_some, nxO_some, if_pos hl, if_pos hl, List.take_left' rfl, List.drop_left' rfl]
  exact ⟨rfl, rfl⟩
theorem trim_trim (p : List Int) : trim (trim p) = trim p := trim_self (trim_head p)
theorem int_back (p r : List Int) (h : p.length < 16384) : intV (some (enc p ++ r)) = trim p ∧ intN (some (enc p ++ r)) = some r := by
  have hp := pad_le (trim p)
  have ht := trim_le p
  obtain ⟨h1, h2⟩ := text_back (pad (trim p)) r (by omega)
  have hx : intBad (pad (trim p)) = false := by
    rcases trim_head p with h0 | h0
    · rw [h0]; rfl
    · unfold intBad
      rw [pad_eq]
      by_cases h8 : (trim p).getD 0 0 ≥ 128
      · rw [if_pos h8]
        cases hq : trim p with
        | nil => rw [hq] at h8; exact absurd h8 (by decide)
        | cons a t =>
          rw [hq] at h8
          have ha : ¬ a < 128 := by
            have : a ≥ 128 := h8
            omega
          have e : decide ((0 :: a :: t).getD 1 0 < 128) = false := decide_eq_false ha
          rw [e]
          simp
      · rw [if_neg h8]
        have e1 : decide ((trim p).getD 0 0 ≥ 128) = false := decide_eq_false h8
        have e2 : ((trim p).getD 0 0 == 0) = false := by rw [beq_eq_false_iff_ne]; exact h0
        rw [e1, e2]
        simp
  unfold intV intN enc
  rw [h1, h2, hx]
  refine ⟨?_, rfl⟩
  show (if (pad (trim p)).getD 0 1 = 0 then (pad (trim p)).drop 1 else pad (trim p)) = trim p
  rw [pad_eq]
  rcases trim_head p with h0 | h0
  · rw [h0]; rfl
  · by_cases h8 : (trim p).getD 0 0 ≥ 128
    · rw [if_pos h8]
      show (if (0 : Int) = 0 then _ else _) = _
      rw [if_pos rfl]
      rfl
    · rw [if_neg h8]
      cases hq : trim p with
      | nil => rfl
      | cons a t =>
        rw [hq] at h0
        have : (a :: t).getD 0 1 ≠ 0 := h0
        rw [if_neg this]

/-! ### names -/
theorem spl_app (u v : List UInt8) (h : 44 ∉ u) : spl (u ++ 44 :: v) = u :: spl v := by
  induction u with
  | nil => rw [List.nil_append, spl, if_pos rfl]
  | cons c u ih =>
    have hc : c ≠ 44 := fun e => h (by rw [e]; exact List.mem_cons_self)
    rw [List.cons_append, spl, if_neg hc, ih (fun hm => h (List.mem_cons_of_mem _ hm))]
theorem spl_join : ∀ (x : List UInt8) (r : List (List UInt8)), (∀ y ∈ x :: r, 44 ∉ y) → spl (Lib.join (x :: r) [44]) = x :: r
  | x, [], h => by
    rw [Lib.join_one]
    exact spl_one x (List.count_eq_zero.2 (h x List.mem_cons_self))
  | x, y :: r, h => by
    have e : Lib.join (x :: y :: r) [44] = x ++ 44 :: Lib.join (y :: r) [44] := by
      rw [Lib.join_cons, Lib.join_cons]
      unfold Lib.joinTail
      simp
    rw [e, spl_app _ _ (h x List.mem_cons_self), spl_join y r fun z hz => h z (List.mem_cons_of_mem _ hz)]
theorem splS_join {l : List ByteArray} (hl : l ≠ []) (h : ∀ y ∈ l, 44 ∉ y.data.toList) : splS (joinB l (⟨#[44]⟩ : ByteArray)) = l := by
  cases l with
  | nil => exact absurd rfl hl
  | cons x r =>
    show (spl (Lib.join ((x :: r).map (·.data.toList)) [44])).map ba = _
    rw [List.map_cons, spl_join _ _ (by
      intro y hy
      rw [← List.map_cons (f := fun s : ByteArray => s.data.toList)] at hy
      obtain ⟨z, hz, rfl⟩ := List.mem_map.1 hy
      exact h z hz)]
    rw [List.map_cons, ba_data, List.map_map]
    congr 1
    conv => rhs; rw [← List.map_id r]
    exact List.map_congr_left fun z _ => ba_data z
theorem namesT_join {l : List ByteArray} (h0 : ∀ y ∈ l, y.size ≠ 0) (h : ∀ y ∈ l, 44 ∉ y.data.toList) : namesT (joinB l (⟨#[44]⟩ : ByteArray)) = some l := by
  cases l with
  | nil =>
    have : strEq (joinB [] (⟨#[44]⟩ : ByteArray)) (⟨#[]⟩ : ByteArray) = true := by rw [strEq_data]; rfl
    unfold namesT
    rw [this]
    rfl
  | cons x r =>
    have hs := splS_join (l := x :: r) (by simp) h
    have hx := h0 x List.mem_cons_self
    have hne : strEq (joinB (x :: r) (⟨#[44]⟩ : ByteArray)) (⟨#[]⟩ : ByteArray) = false := by
      cases hq : strEq (joinB (x :: r) (⟨#[44]⟩ : ByteArray)) (⟨#[]⟩ : ByteArray) with
      | false => rfl
      | true =>
        exfalso
        have h1 : (joinB (x :: r) (⟨#[44]⟩ : ByteArray)).size = 0 := by rw [strEq_eq hq]; rfl
        have h2 : (joinB (x :: r) (⟨#[44]⟩ : ByteArray)).size = (Lib.join ((x :: r).map (·.data.toList)) [44]).length := rfl
        have e1 : x.data.toList.length = x.size := Array.length_toList
        rw [List.map_cons, Lib.join_cons, List.length_append, e1] at h2
        omega
    have hnn : noName (x :: r) = false := by
      unfold noName
      have : fstB (fun k => sel (strEq ((x :: r).getD k (⟨#[]⟩ : ByteArray)) (⟨#[]⟩ : ByteArray)) true false) (x :: r).length = (x :: r).length := by
        refine fst_none fun j hj => ?_
        have e : (x :: r).getD j (⟨#[]⟩ : ByteArray) = (x :: r)[j] := by rw [List.getD_eq_getElem?_getD, List.getElem?_eq_getElem hj]; rfl
        show sel (strEq ((x :: r).getD j (⟨#[]⟩ : ByteArray)) (⟨#[]⟩ : ByteArray)) true false = false
        rw [e]
        cases hq : strEq (x :: r)[j] (⟨#[]⟩ : ByteArray) with
        | false => rfl
        | true =>
          exfalso
          apply h0 _ (List.getElem_mem hj)
          rw [strEq_eq hq]
          rfl
      rw [this, blt_self]
    unfold namesT
    rw [hne, hs, hnn]
    rfl
theorem names_text {T : ByteArray} (r : List Int) (hz : T.size ≤ 16384) : namesV (some (be4 T.size ++ bytesI T ++ r)) = (namesT T).getD [] ∧ namesN (some (be4 T.size ++ bytesI T ++ r)) = sel (namesT T).isSome (some r) none := by
  have hl := bytesI_length T
  have h1 := text_back (bytesI T) r (by omega)
  rw [hl] at h1
  unfold namesV namesN
  rw [h1.1, h1.2, bytesOf_bytesI]
  exact ⟨rfl, rfl⟩
theorem names_back {l : List ByteArray} (r : List Int) (h0 : ∀ y ∈ l, y.size ≠ 0) (h : ∀ y ∈ l, 44 ∉ y.data.toList) (hz : (joinB l (⟨#[44]⟩ : ByteArray)).size ≤ 16384) :
    namesV (some (be4 (joinB l (⟨#[44]⟩ : ByteArray)).size ++ bytesI (joinB l (⟨#[44]⟩ : ByteArray)) ++ r)) = l ∧ namesN (some (be4 (joinB l (⟨#[44]⟩ : ByteArray)).size ++ bytesI (joinB l (⟨#[44]⟩ : ByteArray)) ++ r)) = some r := by
  have h1 := names_text (T := joinB l (⟨#[44]⟩ : ByteArray)) r hz
  rw [namesT_join h0 h] at h1
  exact h1

end Go.Vm
