import Derived.Test.YtcfpmiiaicfcnaaR1
import Derived.Test.YtcfpmiiaicfcnaaM9
set_option linter.unusedVariables false
namespace Go.Vm
open Go

/-- The reference's digits that are a number modulo the prime. -/
def R (d : List Int) (v : Int) : Prop := d = digs 65536 16 (v % PP)

theorem R.to {x : List Int} {v w : Int} (h : R x v) (e : v % PP = w % PP) : R x w := by unfold R at *; rw [h, e]

def su (B : Int) (h : Nat → Int) : Nat → Int
  | 0 => 0
  | j + 1 => su B h j + h j * B ^ j

theorem su_succ (B : Int) (h : Nat → Int) (j : Nat) : su B h (j + 1) = su B h j + h j * B ^ j := rfl

theorem su_getD (B : Int) (xs : List Int) : ∀ j, su B (fun i => xs.getD i 0) j = num B (xs.take j)
  | 0 => by simp [su, num]
  | j + 1 => by rw [su_succ, su_getD B xs j, num_take]

theorem su_all {B : Int} {xs : List Int} {n : Nat} (h : xs.length = n) : su B (fun i => xs.getD i 0) n = num B xs := by
  rw [su_getD, List.take_of_length_le (by omega)]

theorem su_add (B : Int) (f g : Nat → Int) : ∀ j, su B (fun i => f i + g i) j = su B f j + su B g j
  | 0 => rfl
  | j + 1 => by rw [su_succ, su_succ, su_succ, su_add B f g j, Int.add_mul]; omega

theorem su_mul (B a : Int) (f : Nat → Int) : ∀ j, su B (fun i => a * f i) j = a * su B f j
  | 0 => by simp [su]
  | j + 1 => by rw [su_succ, su_succ, su_mul B a f j, Int.mul_add, Int.mul_assoc]

theorem su_congr {B : Int} {f g : Nat → Int} : ∀ {j : Nat}, (∀ i, i < j → f i = g i) → su B f j = su B g j
  | 0, _ => rfl
  | j + 1, h => by rw [su_succ, su_succ, su_congr (fun i hi => h i (by omega)), h j (by omega)]

theorem itr_pt {B : Int} {f : Nat → List Int → List Int} {g : Nat → Int} {p : List Int} {n o : Nat} (hn : n + o ≤ p.length)
    (hf : ∀ k z, k < n → z.length = p.length → z.getD (k + o) 0 = p.getD (k + o) 0 → f k z = z.set (k + o) (g k)) :
    ∀ j, j ≤ n → (itr f j p).length = p.length ∧ (∀ i, i < j → (itr f j p).getD (i + o) 0 = g i) ∧ (∀ i, i < o ∨ j + o ≤ i → (itr f j p).getD i 0 = p.getD i 0) ∧
      num B (itr f j p) = num B p + su B (fun i => g i - p.getD (i + o) 0) j * B ^ o := by
  intro j
  induction j with
  | zero => intro _; rw [itr_zero]; exact ⟨rfl, fun i hi => absurd hi (by omega), fun _ _ => rfl, by simp [su]⟩
  | succ j ih =>
    intro hj
    obtain ⟨h1, h2, h3, h4⟩ := ih (by omega)
    rw [itr_succ]
    generalize itr f j p = z at *
    have hz := h3 (j + o) (Or.inr (Nat.le_refl _))
    rw [hf j z (by omega) h1 hz]
    refine ⟨by rw [List.length_set, h1], ?_, ?_, ?_⟩
    · intro i hi
      by_cases hij : i = j
      · subst hij; rw [getD_set_eq (by omega)]
      · rw [getD_set_ne (by omega)]; exact h2 i (by omega)
    · intro i hi
      rw [getD_set_ne (by omega)]; exact h3 i (by omega)
    · rw [num_set (by omega), h4, hz, su_succ, Int.add_mul, Int.mul_assoc _ (B ^ j), ← Int.pow_add]
      omega

theorem bd_of_getD {K : Int} {xs : List Int} (h : ∀ i, i < xs.length → -K ≤ xs.getD i 0 ∧ xs.getD i 0 ≤ K) : Bd K xs := by
  intro x hx
  obtain ⟨j, hj, rfl⟩ := List.mem_iff_getElem.1 hx
  have := h j hj
  rw [List.getD_eq_getElem?_getD, List.getElem?_eq_getElem hj] at this
  exact this

/-- A digit-wise loop over a whole number of the reference. -/
theorem itr_all {f : Nat → List Int → List Int} {g : Nat → Int} {p : List Int} {n : Nat} (hn : p.length = n) (K : Int)
    (hf : ∀ k z, k < n → z.getD k 0 = p.getD k 0 → f k z = z.set k (g k)) (hg : ∀ k, k < n → -K ≤ g k ∧ g k ≤ K) :
    (itr f n p).length = n ∧ Bd K (itr f n p) ∧ num 65536 (itr f n p) = su 65536 g n := by
  obtain ⟨h1, h2, h3, h4⟩ := itr_pt (B := 65536) (f := f) (g := g) (p := p) (n := n) (o := 0) (by omega) (fun k z hk _ h => hf k z hk h) n (Nat.le_refl _)
  refine ⟨by omega, ?_, ?_⟩
  · apply bd_of_getD
    intro i hi
    have := h2 i (by omega)
    rw [Nat.add_zero] at this
    rw [this]
    exact hg i (by omega)
  · rw [h4, Int.pow_zero, Int.mul_one, ← su_all hn]
    have : ∀ j, su 65536 (fun i => p.getD i 0) j + su 65536 (fun i => g i - p.getD (i + 0) 0) j = su 65536 g j := by
      intro j
      rw [← su_add]
      exact su_congr fun i _ => by rw [Nat.add_zero]; omega
    exact this n

theorem R.len {d : List Int} {v : Int} (h : R d v) : d.length = 16 := by rw [h, digs_length]
theorem R.dig {d : List Int} {v : Int} (h : R d v) : Dig 65536 d := by rw [h]; exact digs_dig (by decide) _ _
theorem R.num {d : List Int} {v : Int} (h : R d v) : num 65536 d = v % PP := by
  rw [h, num_digs (by decide)]
  have a := PP_lt v
  exact Int.emod_eq_of_lt a.1 (Int.lt_trans a.2 (by decide))
theorem R.at {d : List Int} {v : Int} (h : R d v) (i : Nat) : 0 ≤ d.getD i 0 ∧ d.getD i 0 < 65536 := getD_dig (by decide) h.dig

theorem R_low {d : List Int} {v : Int} (hl : d.length = 16) (hd : Bd 1099511627776 d) (hv : Go.Vm.num 65536 d % PP = v % PP) : R (F46 d) v := by
  unfold R; rw [low_val hl hd, hv]

theorem R_add {x y : List Int} {v w : Int} (hx : R x v) (hy : R y w) : R (F17 x y) (v + w) := by
  obtain ⟨h1, h2, h3⟩ := itr_all (f := F17l0 y) (g := fun k => x.getD k 0 + y.getD k 0) hx.len 1099511627776 (by
    intro k z hk hz
    unfold F17l0
    have a := hx.at k
    have b := hy.at k
    rw [hz, iAdd_i64 (by omega) (by omega)]) (by
    intro k hk
    have a := hx.at k
    have b := hy.at k
    omega)
  refine R_low h1 h2 ?_
  rw [h3, su_add, su_all hx.len, su_all hy.len, hx.num, hy.num, ← Int.add_emod]

theorem R_small {n : Int} (h : -1099511627776 ≤ n ∧ n ≤ 1099511627776) : R (F31 n) n := by
  unfold F31
  refine R_low rfl ?_ ?_
  · intro x hx
    simp only [List.mem_cons, List.not_mem_nil, or_false] at hx
    omega
  · simp [num]

theorem R_sub {x y : List Int} {v w : Int} (hx : R x v) (hy : R y w) : R (F19 x y) (v - w) := by
  obtain ⟨h1, h2, h3⟩ := itr_all (f := F19l0 y) (g := fun k => x.getD k 0 + (-1) * y.getD k 0) hx.len 65536 (by
    intro k z hk hz
    unfold F19l0
    have a := hx.at k
    have b := hy.at k
    rw [hz, iSub_i64 (by omega) (by omega)]; congr 1; omega) (by
    intro k hk
    have a := hx.at k
    have b := hy.at k
    omega)
  rw [su_add, su_mul, su_all hx.len, su_all hy.len, hx.num, hy.num] at h3
  unfold F19
  generalize itr (F19l0 y) 16 x = z at *
  have z0 := h2.at (by decide) 0
  rw [iAdd_i64 (y := 131034) (by omega) (by omega)]
  obtain ⟨k1, k2, k3, k4⟩ := itr_pt (B := 65536) (f := F19l1) (g := fun k => z.getD (k + 1) 0 + 131070) (p := z.set 0 (z.getD 0 0 + 131034)) (n := 14) (o := 1) (by rw [List.length_set]; omega) (by
    intro k z' hk hl hz
    unfold F19l1
    rw [getD_set_ne (by omega)] at hz
    have b := h2.at (by decide) (k + 1)
    rw [hz, iAdd_i64 (by omega) (by omega)]) 14 (Nat.le_refl _)
  generalize itr F19l1 14 (z.set 0 (z.getD 0 0 + 131034)) = u at *
  have u15 := k3 15 (by omega)
  rw [getD_set_ne (by omega)] at u15
  have z15 := h2.at (by decide) 15
  rw [u15, iAdd_i64 (by omega) (by omega)]
  have ul : u.length = 16 := by rw [k1, List.length_set, h1]
  refine R_low (by rw [List.length_set, ul]) ?_ ?_
  · refine Bd.set (bd_of_getD ?_) (by omega)
    intro i hi
    by_cases i0 : i = 0
    · have := k3 0 (by omega)
      rw [getD_set_eq (by omega)] at this
      rw [i0, this]; omega
    · by_cases i15 : i = 15
      · rw [i15, u15]; omega
      · have := k2 (i - 1) (by omega)
        rw [show i - 1 + 1 = i by omega] at this
        have b := h2.at (by decide) i
        rw [this]; omega
  · rw [num_set (by omega), u15, k4, num_set (by omega), h3]
    have e : su 65536 (fun i => z.getD (i + 1) 0 + 131070 - (z.set 0 (z.getD 0 0 + 131034)).getD (i + 1) 0) 14 = su 65536 (fun _ => 131070) 14 := su_congr fun i _ => by rw [getD_set_ne (by omega)]; omega
    have e2 : su 65536 (fun _ => 131070) 14 = 53919893334301279589334030174039261347274288845081144962207220498430 := by kernel_rfl
    rw [e, e2]
    have q0 : (65536 : Int) ^ 0 = 1 := rfl
    have q1 : (65536 : Int) ^ 1 = 65536 := rfl
    have q15 : (65536 : Int) ^ 15 = 1766847064778384329583297500742918515827483896875618958121606201292619776 := rfl
    rw [q0, q1, q15]
    have : v % PP + -1 * (w % PP) + (z.getD 0 0 + 131034 - z.getD 0 0) * 1 + 53919893334301279589334030174039261347274288845081144962207220498430 * 65536 + (z.getD 15 0 + 65534 - z.getD 15 0) * 1766847064778384329583297500742918515827483896875618958121606201292619776 = (v % PP - w % PP) + 2 * PP := by
      unfold PP; omega
    rw [this, modP rfl, ← Int.sub_emod]

theorem getD_zeros (n i : Nat) : (List.replicate n (0 : Int)).getD i 0 = 0 := by
  rw [List.getD_eq_getElem?_getD, List.getElem?_replicate]
  split <;> rfl

theorem digs_append {B : Int} (hB : 0 < B) : ∀ (n m : Nat) (v : Int), digs B (n + m) v = digs B n v ++ digs B m (v / B ^ n)
  | 0, m, v => by rw [Nat.zero_add, Int.pow_zero, Int.ediv_one]; rfl
  | n + 1, m, v => by
    rw [Nat.add_right_comm, digs_succ, digs_append hB n m, digs_succ, List.cons_append, Int.ediv_ediv_of_nonneg (by omega), Int.pow_succ, Int.mul_comm B]

theorem prod16 {a b : Int} (ha : 0 ≤ a ∧ a < 65536) (hb : 0 ≤ b ∧ b < 65536) : 0 ≤ a * b ∧ a * b ≤ 4294967296 := by
  refine ⟨Int.mul_nonneg ha.1 hb.1, ?_⟩
  have h := Int.mul_le_mul (a := a) (b := b) (c := 65536) (d := 65536) (by omega) (by omega) hb.1 (by omega)
  omega

theorem R_mul {x y : List Int} {v w : Int} (hx : R x v) (hy : R y w) : R (F21 x y) (v * w) := by
  have inner : ∀ k0 : Nat, k0 < 16 → ∀ z : List Int, z.length = 32 → Bd ((k0 : Int) * 4294967296) z →
      (F21l0 x y k0 z).length = 32 ∧ Bd (((k0 + 1 : Nat) : Int) * 4294967296) (F21l0 x y k0 z) ∧ num 65536 (F21l0 x y k0 z) = num 65536 z + x.getD k0 0 * num 65536 y * 65536 ^ k0 := by
    intro k0 h0 z hz hb
    have hx0 := hx.at k0
    obtain ⟨h1, h2, h3, h4⟩ := itr_pt (B := 65536) (f := F21l1 x y k0) (g := fun k => z.getD (k + k0) 0 + x.getD k0 0 * y.getD k 0) (p := z) (n := 16) (o := k0) (by omega) (by
      intro k z' hk hl he
      unfold F21l1
      have a := hb.at (by omega) (k + k0)
      have b := prod16 hx0 (hy.at k)
      rw [Nat.add_comm k0 k, he, iMul_i64 (by omega) (by omega), iAdd_i64 (by omega) (by omega)]) 16 (Nat.le_refl _)
    unfold F21l0
    refine ⟨by rw [h1, hz], ?_, ?_⟩
    · apply bd_of_getD
      intro i hi
      have a := hb.at (by omega) i
      have e : ((k0 + 1 : Nat) : Int) * 4294967296 = (k0 : Int) * 4294967296 + 4294967296 := by omega
      by_cases hik : i < k0 ∨ 16 + k0 ≤ i
      · rw [h3 i hik, e]; omega
      · have := h2 (i - k0) (by omega)
        rw [show i - k0 + k0 = i by omega] at this
        have b := prod16 hx0 (hy.at (i - k0))
        rw [this, e]; omega
    · rw [h4]
      congr 2
      have e : su 65536 (fun i => z.getD (i + k0) 0 + x.getD k0 0 * y.getD i 0 - z.getD (i + k0) 0) 16 = su 65536 (fun i => x.getD k0 0 * y.getD i 0) 16 := su_congr fun i _ => by omega
      rw [e, su_mul, su_all hy.len]
  have outer : ∀ j, j ≤ 16 → (itr (F21l0 x y) j (List.replicate 32 0)).length = 32 ∧ Bd ((j : Int) * 4294967296) (itr (F21l0 x y) j (List.replicate 32 0)) ∧ num 65536 (itr (F21l0 x y) j (List.replicate 32 0)) = num 65536 (x.take j) * num 65536 y := by
    intro j
    induction j with
    | zero =>
      intro _
      rw [itr_zero]
      refine ⟨rfl, ?_, by rw [num_zeros]; simp [num]⟩
      intro a ha
      rw [List.eq_of_mem_replicate ha]; omega
    | succ j ih =>
      intro hj
      obtain ⟨h1, h2, h3⟩ := ih (by omega)
      obtain ⟨i1, i2, i3⟩ := inner j (by omega) _ h1 h2
      rw [itr_succ]
      refine ⟨i1, i2, ?_⟩
      rw [i3, h3, num_take, Int.add_mul]
      congr 1
      rw [Int.mul_assoc, Int.mul_assoc, Int.mul_comm (65536 ^ j)]
  obtain ⟨o1, o2, o3⟩ := outer 16 (Nat.le_refl _)
  rw [List.take_of_length_le (by rw [hx.len]; decide), hx.num, hy.num] at o3
  have hch := chain_val (n := 32) o1 (fun a ha => by have := o2 a ha; omega)
  rw [o3] at hch
  have hV : 0 ≤ v % PP * (w % PP) := Int.mul_nonneg (PP_lt v).1 (PP_lt w).1
  have hV2 : v % PP * (w % PP) ≤ 3351951982485649274893506249551461531869841455148098344430890360930441007516186694504959566828678008207342894297409383004791299986236948390458062788362601 := by
    have h := Int.mul_le_mul (a := v % PP) (b := w % PP) (c := PP) (d := PP) (Int.le_of_lt (PP_lt v).2) (Int.le_of_lt (PP_lt w).2) (PP_lt w).1 (by decide)
    have e : PP * PP = 3351951982485649274893506249551461531869841455148098344430890360930441007516186694504959566828678008207342894297409383004791299986236948390458062788362601 := by kernel_rfl
    rw [e] at h
    exact h
  refine R.to (v := v % PP * (w % PP)) ?_ (Int.mul_emod v w PP).symm
  generalize v % PP * (w % PP) = V at *
  have hsp := digs_append (B := 65536) (by decide) 16 16 V
  have e0 : F21 x y = F46 (itr (F21l3 x y) 16 (List.replicate 16 0)) := rfl
  have ez : ([0, 0, 0, 0, 0, 0, 0, 0, 0, 0, 0, 0, 0, 0, 0, 0, 0, 0, 0, 0, 0, 0, 0, 0, 0, 0, 0, 0, 0, 0, 0, 0] : List Int) = List.replicate 32 0 := rfl
  have g1 : ∀ k, k < 16 → (digs 65536 32 V).getD k 0 = (digs 65536 16 V).getD k 0 := by
    intro k hk
    rw [show 32 = 16 + 16 from rfl, hsp, List.getD_eq_getElem?_getD, List.getElem?_append_left (by rw [digs_length]; exact hk), ← List.getD_eq_getElem?_getD]
  have g2 : ∀ k, k < 16 → (digs 65536 32 V).getD (k + 16) 0 = (digs 65536 16 (V / 65536 ^ 16)).getD k 0 := by
    intro k hk
    rw [show 32 = 16 + 16 from rfl, hsp, List.getD_eq_getElem?_getD, List.getElem?_append_right (by rw [digs_length]; omega), digs_length, Nat.add_sub_cancel, ← List.getD_eq_getElem?_getD]
  obtain ⟨h1, h2, h3⟩ := itr_all (f := F21l3 x y) (p := List.replicate 16 0) (n := 16) (g := fun k => (digs 65536 16 V).getD k 0 + 38 * (digs 65536 16 (V / 65536 ^ 16)).getD k 0) rfl 1099511627776 (by
    intro k z hk hz
    unfold F21l3
    rw [ez, F21l2_eq, hch]
    simp only
    rw [g1 k hk, g2 k hk]
    have a := getD_dig (i := k) (by decide) (digs_dig (B := 65536) (by decide) 16 V)
    have b := getD_dig (i := k) (by decide) (digs_dig (B := 65536) (by decide) 16 (V / 65536 ^ 16))
    rw [iMul_i64 (by omega) (by omega), iAdd_i64 (by omega) (by omega)]) (by
    intro k hk
    have a := getD_dig (i := k) (by decide) (digs_dig (B := 65536) (by decide) 16 V)
    have b := getD_dig (i := k) (by decide) (digs_dig (B := 65536) (by decide) 16 (V / 65536 ^ 16))
    omega)
  rw [e0]
  refine R_low h1 h2 ?_
  have hp : (65536 : Int) ^ 16 = 115792089237316195423570985008687907853269984665640564039457584007913129639936 := by rfl
  rw [h3, su_add, su_mul, su_all (digs_length _ _ _), su_all (digs_length _ _ _), num_digs (by decide), num_digs (by decide), hp]
  have : V = V % 115792089237316195423570985008687907853269984665640564039457584007913129639936 + 38 * (V / 115792089237316195423570985008687907853269984665640564039457584007913129639936 % 115792089237316195423570985008687907853269984665640564039457584007913129639936) + (2 * (V / 115792089237316195423570985008687907853269984665640564039457584007913129639936)) * PP := by
    unfold PP; omega
  exact (modP this).symm
end Go.Vm
