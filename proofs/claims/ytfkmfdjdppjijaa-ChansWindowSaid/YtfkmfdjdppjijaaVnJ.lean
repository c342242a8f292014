/- What a deed of the small machine is worth, eighth part: slices made and cut, bytes and strings. -/
import Derived.Test.YtfkmfdjdppjijaaVnI
import Derived.Laws.BytesString
import Derived.Lib.ConvBytes
import Derived.Laws.AppendOwn
set_option linter.unusedVariables false
set_option linter.unusedSimpArgs false
namespace Go.Vm
open Go

section
variable {E : Env} {σ : Sig} {nm : Nat} {M : Mem} {w : World} {A : Deed} {r : Result Next} {P : Program}

/-- An optional bound and its value. -/
def BndR (E : Env) (σ : Sig) : Option AV → Option Value → Prop
  | none, none => True
  | some v, some V => AVR E σ v V
  | _, _ => False

theorem run_bound {x : Option AV} {X : Option Value} {d : Int} {i : Int} {y dn : Nat} {code : BoundsCode} (hx : BndR E σ x X) (h : bnd d x = some i) (hd : d = (dn : Int)) (h0 : 0 ≤ i) (h1 : i ≤ (y : Int)) :
    (match X with | some v => Instr.sliceBound v y code | none => pure dn : Sem Nat).run P w = .ok i.toNat w := by
  cases x with
  | none =>
    cases X with
    | none => simp only [bnd, Option.some.injEq] at h; simp only [Sem.run_pure]; congr 1; omega
    | some V => exact hx.elim
  | some v =>
    cases X with
    | none => exact hx.elim
    | some V =>
      cases v with
      | sc s =>
        cases s with
        | i k n =>
          simp only [bnd, Option.some.injEq] at h
          subst h
          simp only [BndR, AVR, ScR] at hx
          subst hx
          simp [Instr.sliceBound, asIntOf, h0, h1]
        | _ => simp [bnd] at h
      | _ => simp [bnd] at h

/-- The bounds of a slice expression without a third one. -/
theorem run_bounds2 {lo hi : Option AV} {LO HI : Option Value} {l h : Int} {b : Bool} {len cap : Nat} (hlo : BndR E σ lo LO) (hhi : BndR E σ hi HI) (hl : bnd 0 lo = some l) (hh : bnd len hi = some h)
    (h0 : 0 ≤ l) (h1 : l ≤ h) (h2 : h ≤ (len : Int)) (h3 : len ≤ cap) : (Instr.sliceBounds b len cap LO HI none).run P w = .ok (l.toNat, h.toNat, cap) w := by
  have e1 : (match HI with | some v => Instr.sliceBound v cap (if b then .sliceAcap else .sliceAlen) | none => pure len : Sem Nat).run P w = .ok h.toNat w := run_bound hhi hh rfl (by omega) (by omega)
  have e2 : (match LO with | some v => Instr.sliceBound v h.toNat .sliceB | none => pure 0 : Sem Nat).run P w = .ok l.toNat w := run_bound hlo hl rfl h0 (by omega)
  unfold Instr.sliceBounds
  cases HI <;> cases LO <;> simp only [pure_bind, Sem.run_bind, Option.isSome_none, Bool.false_eq_true, if_false] at e1 e2 ⊢ <;> simp_all

/-- .. with a third one. -/
theorem run_bounds3 {lo hi : Option AV} {LO HI : Option Value} {l h m : Int} {k : IntKind} {b : Bool} {len cap : Nat} (hlo : BndR E σ lo LO) (hhi : BndR E σ hi HI) (hl : bnd 0 lo = some l) (hh : bnd len hi = some h) (hsome : hi ≠ none)
    (h0 : 0 ≤ l) (h1 : l ≤ h) (h2 : h ≤ m) (h3 : m ≤ (cap : Int)) : (Instr.sliceBounds b len cap LO HI (some (.int k m))).run P w = .ok (l.toNat, h.toNat, m.toNat) w := by
  cases hi with
  | none => exact absurd rfl hsome
  | some hv =>
    cases HI with
    | none => exact hhi.elim
    | some HV =>
      have e1 : (Instr.sliceBound HV m.toNat .slice3B).run P w = .ok h.toNat w := run_bound (X := some HV) (d := (len : Int)) (dn := len) hhi hh rfl (by omega) (by omega)
      have e2 : (match LO with | some v => Instr.sliceBound v h.toNat .slice3C | none => pure 0 : Sem Nat).run P w = .ok l.toNat w := run_bound hlo hl rfl h0 (by omega)
      have e3 : ∀ code, (Instr.sliceBound (.int k m) cap code).run P w = .ok m.toNat w := fun code => by
        simp [Instr.sliceBound, asIntOf, show 0 ≤ m from by omega, h3]
      unfold Instr.sliceBounds
      cases LO <;> simp only [Sem.run_bind, e3, Result.andThen_ok, e1, Option.isSome_some, if_true] at e2 ⊢ <;> simp_all

theorem RoR.cut {k : IntKind} {xs : List Int} {B : Option Addr} {c l h m : Nat} (hr : 0 < xs.length → ∃ ad, B = some ad ∧ E.Reads ad k xs) (h1 : l ≤ h) (h2 : h ≤ m) (h3 : h ≤ xs.length) :
    RoR E k ((xs.drop l).take (h - l)) (.slice (if m = l then B else B.map (·.add l)) (h - l) (m - l)) := by
  have hlen : ((xs.drop l).take (h - l)).length = h - l := by simp; omega
  refine ⟨if m = l then B else B.map (·.add l), m - l, by rw [hlen], by omega, fun h0 => ?_⟩
  rw [hlen] at h0
  rw [if_neg (by omega)]
  obtain ⟨ad, rfl, ho, hr⟩ := hr (by omega)
  refine ⟨ad.add l, rfl, by rw [add_block]; exact ho, fun j hj => ?_⟩
  rw [hlen] at hj
  rw [add_add, hr (l + j) (by omega)]
  simp [List.getD_eq_getElem?_getD, List.getElem?_take, hj]

theorem fits_slice {t : TypeId} {x : AV} {X : Value} {lo hi mx : Option AV} {LO HI MX : Option Value} (hx : AVR E σ x X) (hlo : BndR E σ lo LO) (hhi : BndR E σ hi HI) (hmx : BndR E σ mx MX) (hM : MemR E σ M w)
    (hh3 : mx ≠ none → hi ≠ none) (hA : sliceOp E.P t x lo hi mx = some A) : Fits E σ nm M A ((do pure (.value (← Instr.sliceAt t X LO HI MX)) : Sem Next).run E.P w) := by
  unfold sliceOp at hA
  split at hA
  · -- a string
    rename_i s ht
    simp only [AVR, ScR] at hx; subst hx
    split at hA
    · rename_i l h hl hh
      cases MX with
      | some V => exact hmx.elim
      | none =>
        refine fits_pure hA hM fun hC => ⟨.string (s.extract l.toNat h.toNat), run_v ?_, rfl⟩
        have := run_bounds2 (P := E.P) (w := w) (b := false) (len := s.size) (cap := s.size) hlo hhi hl hh hC.1 hC.2.1 hC.2.2 (Nat.le_refl _)
        simp only [Instr.sliceAt, Sem.run_bind, run_und ht, Result.andThen_ok, Instr.slice, Option.isSome_none, Bool.false_eq_true, if_false, pure_bind, this, Sem.run_pure]
    · cases hA
  · -- a slice that is read
    rename_i e k xs ht
    obtain ⟨B, c, rfl, hc, hr⟩ := hx
    split at hA
    · rename_i l h hs hl hh
      cases MX with
      | some V => exact hmx.elim
      | none =>
        refine fits_pure hA hM fun hC => ⟨_, run_v ?_, RoR.cut (c := c) hr (l := l.toNat) (h := h.toNat) (m := c) (by omega) (by omega) (by omega)⟩
        have := run_bounds2 (P := E.P) (w := w) (b := true) (len := xs.length) (cap := c) hlo hhi hl hh hC.1 hC.2.1 hC.2.2 hc
        simp only [Instr.sliceAt, Sem.run_bind, run_und ht, Result.andThen_ok, Instr.slice, this, run_sz hs, Sem.run_pure, Nat.mul_one]
    · rename_i l h kk m hs hl hh
      cases MX with
      | none => exact hmx.elim
      | some V =>
        simp only [BndR, AVR, ScR] at hmx; subst hmx
        refine fits_pure hA hM fun hC => ⟨_, run_v ?_, RoR.cut (c := c) hr (l := l.toNat) (h := h.toNat) (m := m.toNat) (by omega) (by omega) (by omega)⟩
        have := run_bounds3 (P := E.P) (w := w) (b := true) (k := kk) (len := xs.length) (cap := c) hlo hhi hl hh (hh3 (by simp)) hC.1 hC.2.1 hC.2.2.1 (by omega)
        simp only [Instr.sliceAt, Sem.run_bind, run_und ht, Result.andThen_ok, Instr.slice, this, run_sz hs, Sem.run_pure, Nat.mul_one]
    · cases hA
  · -- a slice of a block
    rename_i e b off len es cap ht
    have key : ∀ (l h m cc : Nat) (X' : Option Addr), True := fun _ _ _ _ _ => trivial
    split at hA
    · rename_i s l h hs hl hh
      split at hA
      · rename_i hse
        subst hse
        cases MX with
        | some V => exact hmx.elim
        | none =>
          refine fits_pure hA hM fun hC => ?_
          obtain ⟨c0, c1, c2⟩ := hC
          rcases hx with ⟨rfl, hcap, B, rfl⟩ | ⟨L, c, hL, rfl, hlc, hfit, hcap⟩
          · have := run_bounds2 (P := E.P) (w := w) (b := true) (len := 0) (cap := 0) hlo hhi hl hh c0 c1 c2 (Nat.le_refl _)
            refine ⟨_, run_v (V := .slice B 0 0) ?_, .inl ⟨by omega, ?_, B, rfl⟩⟩
            · have hl0 : l.toNat = 0 := by omega
              have hh0 : h.toNat = 0 := by omega
              rw [hl0, hh0] at this
              simp only [Instr.sliceAt, Sem.run_bind, run_und ht, Result.andThen_ok, Instr.slice, this, run_sz hs, Sem.run_pure, if_true, Nat.sub_self]
            · rcases hcap with rfl | rfl
              · exact .inl rfl
              · right; simp
          · have := run_bounds2 (P := E.P) (w := w) (b := true) (len := len) (cap := c) hlo hhi hl hh c0 c1 c2 hlc
            refine ⟨_, run_v (V := .slice (if c = l.toNat then some ⟨L.g, L.β + off, none⟩ else some (⟨L.g, L.β + (off + l.toNat * s), none⟩)) (h.toNat - l.toNat) (c - l.toNat)) ?_, ?_⟩
            · simp only [Instr.sliceAt, Sem.run_bind, run_und ht, Result.andThen_ok, Instr.slice, this, run_sz hs, Sem.run_pure, Option.map_some, addr_add, Nat.add_assoc]
            · by_cases hcl : c = l.toNat
              · rw [if_pos hcl]
                refine .inl ⟨by omega, ?_, some ⟨L.g, L.β + off, none⟩, by congr 1 <;> omega⟩
                cases cap with
                | none => exact .inl rfl
                | some n => right; simp only at hcap; simp; omega
              · rw [if_neg hcl]
                have e1 : c * s = l.toNat * s + (c - l.toNat) * s := by rw [← Nat.add_mul]; congr 1; omega
                refine .inr ⟨L, c - l.toNat, hL, rfl, by omega, by omega, ?_⟩
                cases cap with
                | none => simp only at hcap ⊢; simp only [Option.map_none]; omega
                | some n => simp only at hcap ⊢; simp only [Option.map_some]; omega
      · cases hA
    · rename_i s l h kk m hs hl hh
      split at hA
      · rename_i hse
        subst hse
        cases MX with
        | none => exact hmx.elim
        | some V =>
          simp only [BndR, AVR, ScR] at hmx; subst hmx
          refine fits_pure hA hM fun hC => ?_
          obtain ⟨c0, c1, c2, c3⟩ := hC
          rcases hx with ⟨rfl, hcap, B, rfl⟩ | ⟨L, c, hL, rfl, hlc, hfit, hcap⟩
          · have := run_bounds3 (P := E.P) (w := w) (b := true) (k := kk) (len := 0) (cap := 0) hlo hhi hl hh (hh3 (by simp)) c0 c1 c2 (by omega)
            refine ⟨_, run_v (V := .slice B 0 0) ?_, .inl ⟨by omega, .inr (by congr 1; omega), B, rfl⟩⟩
            have hl0 : l.toNat = 0 := by omega
            have hh0 : h.toNat = 0 := by omega
            have hm0 : m.toNat = 0 := by omega
            rw [hl0, hh0, hm0] at this
            simp only [Instr.sliceAt, Sem.run_bind, run_und ht, Result.andThen_ok, Instr.slice, this, run_sz hs, Sem.run_pure, if_true, Nat.sub_self]
          · have := run_bounds3 (P := E.P) (w := w) (b := true) (k := kk) (len := len) (cap := c) hlo hhi hl hh (hh3 (by simp)) c0 c1 c2 (by omega)
            refine ⟨_, run_v (V := .slice (if m.toNat = l.toNat then some ⟨L.g, L.β + off, none⟩ else some (⟨L.g, L.β + (off + l.toNat * s), none⟩)) (h.toNat - l.toNat) (m.toNat - l.toNat)) ?_, ?_⟩
            · simp only [Instr.sliceAt, Sem.run_bind, run_und ht, Result.andThen_ok, Instr.slice, this, run_sz hs, Sem.run_pure, Option.map_some, addr_add, Nat.add_assoc]
            · by_cases hcl : m.toNat = l.toNat
              · rw [if_pos hcl]
                exact .inl ⟨by omega, .inr (by congr 1; omega), some ⟨L.g, L.β + off, none⟩, by congr 1 <;> omega⟩
              · rw [if_neg hcl]
                have e1 : m.toNat * s = l.toNat * s + (m.toNat - l.toNat) * s := by rw [← Nat.add_mul]; congr 1; omega
                have e2 : m.toNat * s ≤ c * s := Nat.mul_le_mul_right s (by omega)
                exact .inr ⟨L, m.toNat - l.toNat, hL, rfl, by omega, by omega, rfl⟩
      · cases hA
    · cases hA
  · -- nil
    rename_i e ht
    simp only [AVR, ScR] at hx; subst hx
    split at hA
    · rename_i s l h hs hl hh
      cases MX with
      | some V => exact hmx.elim
      | none =>
        refine fits_pure hA hM fun hC => ⟨.slice none 0 0, run_v ?_, rfl⟩
        obtain ⟨rfl, rfl⟩ := hC
        have := run_bounds2 (P := E.P) (w := w) (b := true) (len := 0) (cap := 0) hlo hhi hl hh (by omega) (by omega) (by omega) (Nat.le_refl _)
        simp only [Instr.sliceAt, Sem.run_bind, run_und ht, Result.andThen_ok, Instr.slice, this, run_sz hs, Sem.run_pure]
        rfl
    · cases hA
  · -- an array
    rename_i n e b o ht
    obtain ⟨L, hL, rfl⟩ := hx
    split at hA
    · rename_i s l h hs hl hh
      cases MX with
      | some V => exact hmx.elim
      | none =>
        refine fits_load hA hM fun k C v hk hf hC => ?_
        simp only [Option.some.injEq, Prod.mk.injEq] at hf
        obtain ⟨rfl, rfl⟩ := hf
        obtain ⟨⟨c0, c1, c2⟩, c3⟩ := hC
        have hB := hM.blk b k hk
        rw [hL] at hB
        obtain ⟨_, _, _, _, _, _, _, hle, _⟩ := hB
        have := run_bounds2 (P := E.P) (w := w) (b := false) (len := n) (cap := n) hlo hhi hl hh c0 c1 c2 (Nat.le_refl _)
        refine ⟨.slice (some (if n = l.toNat then ⟨L.g, L.β + o, none⟩ else ⟨L.g, L.β + (o + l.toNat * s), none⟩)) (h.toNat - l.toNat) (n - l.toNat), run_v ?_, ?_⟩
        · simp only [Instr.sliceAt, Sem.run_bind, run_und ht, Result.andThen_ok, Instr.sureAddr, this, run_sz hs, Sem.run_pure, addr_add, Nat.add_assoc]
        · by_cases hcl : n = l.toNat
          · exact .inl ⟨by omega, .inr (by congr 1; omega), some (if n = l.toNat then ⟨L.g, L.β + o, none⟩ else ⟨L.g, L.β + (o + l.toNat * s), none⟩), by congr 1 <;> omega⟩
          · rw [if_neg hcl]
            have e1 : n * s = l.toNat * s + (n - l.toNat) * s := by rw [← Nat.add_mul]; congr 1; omega
            exact .inr ⟨L, n - l.toNat, hL, rfl, by omega, by omega, rfl⟩
    · rename_i s l h kk m hs hl hh
      cases MX with
      | none => exact hmx.elim
      | some V =>
        simp only [BndR, AVR, ScR] at hmx; subst hmx
        refine fits_load hA hM fun k C v hk hf hC => ?_
        simp only [Option.some.injEq, Prod.mk.injEq] at hf
        obtain ⟨rfl, rfl⟩ := hf
        obtain ⟨⟨c0, c1, c2, c2'⟩, c3⟩ := hC
        have hB := hM.blk b k hk
        rw [hL] at hB
        obtain ⟨_, _, _, _, _, _, _, hle, _⟩ := hB
        have := run_bounds3 (P := E.P) (w := w) (b := false) (k := kk) (len := n) (cap := n) hlo hhi hl hh (hh3 (by simp)) c0 c1 c2 c2'
        refine ⟨.slice (some (if m.toNat = l.toNat then ⟨L.g, L.β + o, none⟩ else ⟨L.g, L.β + (o + l.toNat * s), none⟩)) (h.toNat - l.toNat) (m.toNat - l.toNat), run_v ?_, ?_⟩
        · simp only [Instr.sliceAt, Sem.run_bind, run_und ht, Result.andThen_ok, Instr.sureAddr, this, run_sz hs, Sem.run_pure, addr_add, Nat.add_assoc]
        · by_cases hcl : m.toNat = l.toNat
          · exact .inl ⟨by omega, .inr (by congr 1; omega), some (if m.toNat = l.toNat then ⟨L.g, L.β + o, none⟩ else ⟨L.g, L.β + (o + l.toNat * s), none⟩), by congr 1 <;> omega⟩
          · rw [if_neg hcl]
            have e1 : m.toNat * s = l.toNat * s + (m.toNat - l.toNat) * s := by rw [← Nat.add_mul]; congr 1; omega
            have e2 : m.toNat * s ≤ n * s := Nat.mul_le_mul_right s (by omega)
            exact .inr ⟨L, m.toNat - l.toNat, hL, rfl, by omega, by omega, rfl⟩
    · cases hA
  · cases hA

theorem fits_arrayAt {t : TypeId} {x : AV} {X : Value} (hx : AVR E σ x X) (hM : MemR E σ M w) (hA : arrayAtOp E.P t x = some A) :
    Fits E σ nm M A ((do pure (.value (← Instr.arrayAt t X)) : Sem Next).run E.P w) := by
  unfold arrayAtOp at hA
  split at hA
  · rename_i n e k xs ht
    obtain ⟨B, c, rfl, hc, hr⟩ := hx
    refine fits_pure hA hM fun hC => ?_
    obtain ⟨ad, rfl, hr2⟩ := hr (by omega)
    refine ⟨.pointer (some ad), run_v ?_, ad, rfl, hr2⟩
    simp only [Instr.arrayAt, Sem.run_bind, run_und ht, Result.andThen_ok]
    rw [if_neg (by omega)]
    rfl
  · rename_i n e b off len es cap ht
    refine fits_pure hA hM fun hC => ?_
    rcases hx with ⟨rfl, _⟩ | ⟨L, c, hL, rfl, _⟩
    · omega
    · refine ⟨.pointer (some ⟨L.g, L.β + off, none⟩), run_v ?_, L, hL, rfl⟩
      simp only [Instr.arrayAt, Sem.run_bind, run_und ht, Result.andThen_ok]
      rw [if_neg (by omega)]
      rfl
  · cases hA

/-! ### bytes and strings -/
theorem foldl_bytes : ∀ (xs : List Int) (s : ByteArray), xs.foldl (fun r n => r.push (UInt8.ofNat n.toNat)) s = ⟨s.data ++ (xs.map fun n => UInt8.ofNat n.toNat).toArray⟩
  | [], s => by simp
  | x :: xs, s => by
    rw [List.foldl_cons, foldl_bytes xs]
    simp [ByteArray.push]

theorem run_bytes {P : Program} {ad : Addr} {xs : List Int} {n c : Nat} (hn : n = xs.length) (h : ∀ j, j < xs.length → w.cell? (ad.add j) = some (.int .u8 (xs.getD j 0))) :
    (Conv.bytesToString (.slice (some ad) n c)).run P w = .ok (.string (bytesOf xs)) w := by
  subst hn
  have hl : (loadCells ad xs.length).run P w = .ok (xs.map (Value.int .u8)).toArray w := by
    have := run_loadCells_list (P := P) w ad (xs.map (Value.int .u8)) (fun j v hv => by
      simp only [List.getElem?_map, Option.map_eq_some_iff] at hv
      obtain ⟨y, hy, rfl⟩ := hv
      have hlt := (List.getElem?_eq_some_iff.1 hy).1
      rw [h j hlt]
      simp [hy])
    simpa using this
  rw [run_bytesToString w ad xs.length c xs hl, foldl_bytes]
  congr 2
  simp [bytesOf, ByteArray.empty, ByteArray.emptyWithCapacity]
  rfl

/-- The mark behind a row's last cell. -/
theorem MemR.marked (hM : MemR E σ M w) {b : Nat} {k : Blk} {L : Loc} (hb : look b M = some k) (hL : σ b = .at L) : ∃ elem, w.shape? L.g = some (elem, L.sz) ∧ MemR E σ M (w.freeze ⟨L.g, L.sz, none⟩ 1) := by
  have hB := hM.blk b k hb
  rw [hL] at hB
  obtain ⟨hg, arr, elem, lo, hi, h1, h2, h3, h4, h5, h6⟩ := hB
  refine ⟨elem, by unfold World.shape?; rw [h1]; simp [h2], ?_⟩
  have hheap : (w.freeze ⟨L.g, L.sz, none⟩ 1).heap = w.heap.modify L.g fun
      | .cells c elem (lo, hi) => .cells c elem (if lo == hi then (L.sz, L.sz + 1) else (min lo L.sz, max hi (L.sz + 1)))
      | o => o := by unfold World.freeze; rw [if_neg (by decide)]; rfl
  have hother : ∀ g, g ≠ L.g → (w.freeze ⟨L.g, L.sz, none⟩ 1).heap[g]? = w.heap[g]? := fun g hne => by
    rw [hheap, Array.getElem?_modify, if_neg (Ne.symm hne)]
  have hat : (w.freeze ⟨L.g, L.sz, none⟩ 1).heap[L.g]? = some (.cells arr elem (if lo == hi then (L.sz, L.sz + 1) else (min lo L.sz, max hi (L.sz + 1)))) := by
    rw [hheap, Array.getElem?_modify, if_pos rfl, h1]; rfl
  have hsize : (w.freeze ⟨L.g, L.sz, none⟩ 1).heap.size = w.heap.size := by rw [hheap, Array.size_modify]
  have hrest : (w.freeze ⟨L.g, L.sz, none⟩ 1).os = w.os ∧ (w.freeze ⟨L.g, L.sz, none⟩ 1).tape = w.tape ∧ (w.freeze ⟨L.g, L.sz, none⟩ 1).output = w.output := by
    unfold World.freeze; rw [if_neg (by decide)]; exact ⟨rfl, rfl, rfl⟩
  have hu : ∃ lo' hi', (if lo == hi then (L.sz, L.sz + 1) else (min lo L.sz, max hi (L.sz + 1))) = (lo', hi') ∧ Unfz lo' hi' L.sz := by
    by_cases he : lo = hi
    · subst he
      refine ⟨L.sz, L.sz + 1, by simp, fun j hj => by omega, by omega⟩
    · have h7 : L.sz ≤ lo := by
        apply Classical.byContradiction
        intro hn
        exact h5.1 lo (by omega) ⟨Nat.le_refl _, by have := h5.2; omega⟩
      refine ⟨min lo L.sz, max hi (L.sz + 1), by simp [he], fun j hj => by omega, by omega⟩
  obtain ⟨lo', hi', e1, e2⟩ := hu
  rw [e1] at hat
  refine ⟨?_, hM.inj, ?_, by rw [hsize]; exact hM.size, hM.olds, by rw [hrest.1, hM.os], by rw [hrest.2.1, hM.tape], by rw [hrest.2.2, hM.output]⟩
  · intro c x hcx
    have hx := hM.blk c x hcx
    cases hc : σ c with
    | unset => rw [hc] at hx; exact hx
    | nil => rw [hc] at hx; exact hx
    | «at» L' =>
      rw [hc] at hx
      by_cases hg' : L'.g = L.g
      · have hcb := hM.inj c b x k L' L hcx hb hc hL hg'
        subst hcb
        rw [hL] at hc
        injection hc with hc
        subst hc
        obtain ⟨q0, a2, e2', l2, i2, q1, q2, q3, q4, q5, q6⟩ := hx
        have hsame := q1.symm.trans h1
        simp only [Option.some.injEq, Obj.cells.injEq, Prod.mk.injEq] at hsame
        obtain ⟨rfl, rfl, _, _⟩ := hsame
        exact ⟨q0, a2, e2', lo', hi', hat, q2, q3, q4, e2, q6⟩
      · exact BlkR.same (fun L2 h => by cases h; exact hother _ hg') hx
  · intro g hg'
    rw [hother g (fun e => h4 (e ▸ hg'))]
    exact hM.old g hg'

theorem fits_convert {src dst : TypeId} {x : AV} {X : Value} (hx : AVR E σ x X) (hM : MemR E σ M w) (hn : ∀ m, nm ≤ m → m < nm + 16 → σ m = .unset) (hA : convertOp E.P src dst x nm = some A) :
    Fits E σ nm M A ((do pure (.value (← convert src dst X)) : Sem Next).run E.P w) := by
  unfold convertOp at hA
  split at hA
  · -- a number
    rename_i k kk n hd
    simp only [AVR, ScR] at hx; subst hx
    split at hA
    · rename_i d hs
      refine fits_pure hA hM fun hC => ⟨.int k (k.wrap n), run_v ?_, rfl⟩
      simp [convert, run_und hs, run_und hd, Conv.intToInt]
    · cases hA
  · rename_i d s hs hd
    simp only [AVR, ScR] at hx; subst hx
    refine fits_pure hA hM fun hC => ⟨.string s, run_v ?_, rfl⟩
    simp only [convert, Sem.run_bind, run_und hs, run_und hd, Result.andThen_ok]
    rfl
  · -- a string to bytes
    rename_i d e s hs hd
    simp only [AVR, ScR] at hx; subst hx
    split at hA
    · rename_i he
      refine fits_new hA hM hn fun hC => ?_
      have hrun := Lib.run_convert_string_bytes (P := E.P) w src dst e s hs hd he
      have hge := grownCap_ge w s.size 0 e
      have hsz : (Lib.bytesCells w e s).size = grownCap w s.size 0 e := by
        have : s.data.size = s.size := rfl
        simp only [Lib.bytesCells, Array.size_append, Array.size_map, Array.size_replicate, this]
        omega
      refine ⟨_, _, upd σ nm (.at ⟨w.heap.size, 0, (Lib.bytesCells w e s).size⟩), run_v hrun, ext_upd _ (hn nm (Nat.le_refl _) (by omega)), fun m hm => upd_other σ _ hm, ?_, ?_⟩
      · exact .inr ⟨⟨w.heap.size, 0, (Lib.bytesCells w e s).size⟩, grownCap w s.size 0 e, upd_same .., by simp, hge, by simp only; omega, by simp only; omega⟩
      · refine hM.new' (hn nm (Nat.le_refl _) (by omega)) (fun g hg => Lib.bytesWorld_at_old w e s g hg) (Lib.bytesWorld_at_new w e s) rfl rfl rfl (by simp [Blk.good, bytesI_length]) (by simp only [Blk.len]; omega) ⟨by intro j hj; omega, by omega⟩ ?_
        intro j sc hsc
        simp only [Blk.get?, Option.map_eq_some_iff] at hsc
        obtain ⟨y, hy, rfl⟩ := hsc
        have hlt : j < s.size := by
          have := (List.getElem?_eq_some_iff.1 hy).1
          rwa [bytesI_length] at this
        have hlt2 : j < s.data.size := hlt
        refine ⟨.int .u8 y, ?_, rfl⟩
        simp only [bytesI, List.getElem?_map, Option.map_eq_some_iff] at hy
        obtain ⟨z, hz, rfl⟩ := hy
        simp only [Lib.bytesCells]
        rw [Array.getElem?_append_left (by simpa using hlt2)]
        simp only [Array.getElem?_map, Option.map_eq_some_iff]
        exact ⟨z, by simpa using hz, rfl⟩
    · cases hA
  · -- a constant's bytes
    rename_i e' e b off len cap hs hd
    split at hA
    · rename_i he hsd
      have hsd := Nat.eq_of_beq_eq_true hsd
      subst hsd
      obtain rfl : e' = e := by
        have := hs.symm.trans hd
        injection this with this
        injection this
      simp only [loadD, Option.some.injEq] at hA
      subst hA
      intro C v M' hrun hC
      simp only [Deed.run, lookAll] at hrun
      cases hk : look b M with
      | none => simp [hk] at hrun
      | some k =>
        simp only [hk, putAll, Option.some.injEq, Prod.mk.injEq] at hrun
        obtain ⟨rfl, rfl, rfl⟩ := hrun
        obtain ⟨c1, c2, c3⟩ := hC
        rcases hx with ⟨h0, _⟩ | ⟨L, c, hL, rfl, hrest⟩
        · omega
        · obtain ⟨elem, q1, q2⟩ := hM.marked hk hL
          refine ⟨_, _, σ, .inl (run_v ?_), .refl _, fun _ _ => rfl, .inr ⟨L, c, hL, rfl, hrest⟩, q2⟩
          simp [convert, run_und hs, run_und he, markStringish, q1]
    · cases hA
  · -- bytes to a string
    rename_i _o1 _o2 x' e hs hd h3
    split at hA
    · rename_i he
      split at hA
      · rename_i xs
        obtain ⟨B, c, rfl, hc, hr⟩ := hx
        refine fits_pure hA hM fun hC => ⟨.string (bytesOf xs), run_v ?_, rfl⟩
        simp only [convert, Sem.run_bind, run_und hs, run_und hd, Result.andThen_ok, run_und he]
        cases hxs : xs with
        | nil =>
          cases B with
          | none => simp [Conv.bytesToString, bytesOf, ByteArray.empty, ByteArray.emptyWithCapacity]; rfl
          | some ad => exact run_bytes (xs := []) rfl (by simp)
        | cons y ys =>
          rw [← hxs]
          obtain ⟨ad, rfl, ho, hrd⟩ := hr (by rw [hxs]; simp)
          exact run_bytes rfl fun j hj => by rw [hM.oldCell (by rw [add_block]; exact ho)]; exact hrd j hj
      · simp only [AVR, ScR] at hx; subst hx
        refine fits_pure hA hM fun hC => ⟨.string ⟨#[]⟩, run_v ?_, rfl⟩
        simp only [convert, Sem.run_bind, run_und hs, run_und hd, Result.andThen_ok, run_und he]
        rfl
      · rename_i b off len cap
        refine fits_load hA hM fun k C v hk hf hC => ?_
        split at hf
        · rename_i n xs
          simp only [Option.some.injEq, Prod.mk.injEq] at hf
          obtain ⟨rfl, rfl⟩ := hf
          refine ⟨.string (bytesOf ((xs.drop off).take len)), run_v ?_, rfl⟩
          have hB := hM.blk b _ hk
          rcases hx with ⟨rfl, _, B, rfl⟩ | ⟨L, c, hL, rfl, _⟩
          · simp only [convert, Sem.run_bind, run_und hs, run_und hd, Result.andThen_ok, run_und he]
            cases B with
            | none => simp [Conv.bytesToString, bytesOf, ByteArray.empty, ByteArray.emptyWithCapacity]; rfl
            | some ad => exact run_bytes (xs := (xs.drop off).take 0) (by simp) (by simp)
          · rw [hL] at hB
            have hgood : xs.length = n := hB.1
            simp only [convert, Sem.run_bind, run_und hs, run_und hd, Result.andThen_ok, run_und he]
            refine run_bytes (by simp; omega) fun j hj => ?_
            have hj' : j < len := by simp at hj; omega
            have hget : (Blk.ints .u8 n xs).get? (off + j) = some (.i .u8 (((xs.drop off).take len).getD j 0)) := by
              have hlt : off + j < xs.length := by omega
              simp [Blk.get?, List.getElem?_eq_getElem hlt, List.getElem?_take, hj']
            obtain ⟨v, h4, h5⟩ := hB.read hget
            simp only [ScR] at h5
            subst h5
            rw [addr_add, Nat.add_assoc]
            exact h4
        · cases hf
      · cases hA
    · cases hA
  · cases hA

theorem fits_makeSlice {t : TypeId} {l c : AV} {LV CV : Value} (hl : AVR E σ l LV) (hc : AVR E σ c CV) (hM : MemR E σ M w) (hn : ∀ m, nm ≤ m → m < nm + 16 → σ m = .unset) (hA : makeSliceOp E.P t l c nm = some A) :
    Fits E σ nm M A ((do pure (.value (← Instr.makeSlice t LV CV)) : Sem Next).run E.P w) := by
  unfold makeSliceOp at hA
  split at hA
  · rename_i e l c ht
    simp only [AVR, ScR] at hl hc; subst hl hc
    split at hA
    · rename_i i hi
      have key : ∀ {z : Value} {s : Nat}, i.zero = some z → i.size = s → 0 < s → z.cells.size = s → (0 ≤ l ∧ l = c) → l ≤ 140737488355328 → (i.bytes : Int) * l ≤ 281474976710656 →
          (Instr.makeSlice t (.int .i64 l) (.int .i64 c)).run E.P w = .ok (.slice (some ⟨w.heap.size, 0, none⟩) l.toNat l.toNat) { w with heap := w.heap.push (.cells (repeatL z.cells.toList l.toNat).toArray e) } := by
        intro z s hz hs h0 hzs hl hb1 hb2
        obtain ⟨hl0, rfl⟩ := hl
        have hw : IntKind.i64.wrap l = l := by rw [IntKind.wrap_i64]; omega
        have hti : (typeInfo e).run E.P w = .ok i w := by simp [typeInfo, hi]
        have hsz : (sizeOf e).run E.P w = .ok s w := by simp [sizeOf, typeInfo, hi, hs]
        have hzero : (zeroValue e).run E.P w = .ok z w := by simp [zeroValue, typeInfo, hi, hz]
        have hrep := range_repeat z.cells l.toNat (by omega)
        rw [hzs] at hrep
        have hc1 : (decide (l < 0) || decide ((i.bytes : Int) * l > 2 ^ 48)) = false := by
          have : (2 : Int) ^ 48 = 281474976710656 := by decide
          simp; omega
        unfold Instr.makeSlice
        simp only [Sem.run_bind, run_und ht, Result.andThen_ok, asInt, asIntOf, Sem.run_pure, pure_bind, hti, hw, hc1]
        rw [if_neg (by simp; omega)]
        simp only [pure_bind, Sem.run_bind, run_askRoom, Result.andThen_ok, hsz]
        by_cases hn0 : l.toNat * s = 0
        · have hl0' : l.toNat = 0 := by
            rcases Nat.mul_eq_zero.1 hn0 with h | h
            · exact h
            · omega
          have e0 : ∀ f : Nat → Value, (Array.range 0).map f = #[] := fun f => by simp [Array.range]
          simp only [hl0', Nat.zero_mul, e0, if_true, Sem.run_pure, Result.andThen_ok, newRow, run_newObj, Sem.run_bind, repeatL, Int.toNat_zero]
        · simp only [hn0, if_false, Sem.run_bind, hzero, Result.andThen_ok, Sem.run_pure, newRow, run_newObj, hzs]
          congr 3
          congr 1
          rw [← hrep]
      split at hA
      · rename_i k z hz hs
        refine fits_new hA hM hn fun hC => ?_
        obtain ⟨c1, c2, c3⟩ := hC
        have hrun := key hz hs (by decide) rfl c1 c2 c3
        have hrep : repeatL (Value.int k z).cells.toList l.toNat = intVals k (List.replicate l.toNat z) := by
          have : ∀ n, repeatL [Value.int k z] n = intVals k (List.replicate n z) := by
            intro n
            induction n with
            | zero => rfl
            | succ n ih => simp [repeatL, ih, intVals, List.replicate_succ]
          exact this _
        rw [hrep] at hrun
        refine ⟨_, _, upd σ nm (.at ⟨w.heap.size, 0, l.toNat⟩), run_v hrun, ext_upd _ (hn nm (Nat.le_refl _) (by omega)), fun m hm => upd_other σ _ hm, ?_, ?_⟩
        · exact .inr ⟨⟨w.heap.size, 0, l.toNat⟩, l.toNat, upd_same .., by simp, Nat.le_refl _, by simp only; omega, by simp only; omega⟩
        · have := hM.cells (w' := { w with heap := w.heap.push (.cells (intVals k (List.replicate l.toNat z)).toArray e) }) (elem := e) (arr := (intVals k (List.replicate l.toNat z)).toArray) (lo := 0) (hi := 0) (hn nm (Nat.le_refl _) (by omega)) rfl rfl rfl rfl ⟨fun j hj => by omega, Nat.le_refl _⟩
            (cellsR_ints (E := E) (σ := σ) (k := k) (n := l.toNat) (xs := List.replicate l.toNat z) (by simp)) (fun j v hv => by simpa using hv) (by simp)
          simpa [intVals] using this
      · rename_i z hz hs
        refine fits_new hA hM hn fun hC => ?_
        obtain ⟨c1, c2, c3⟩ := hC
        have hrun := key hz hs (by decide) rfl c1 c2 c3
        have hrep : repeatL (Value.string z).cells.toList l.toNat = (List.replicate l.toNat z).map Value.string := by
          have : ∀ n, repeatL [Value.string z] n = (List.replicate n z).map Value.string := by
            intro n
            induction n with
            | zero => rfl
            | succ n ih => simp [repeatL, ih, List.replicate_succ]
          exact this _
        rw [hrep] at hrun
        refine ⟨_, _, upd σ nm (.at ⟨w.heap.size, 0, l.toNat⟩), run_v hrun, ext_upd _ (hn nm (Nat.le_refl _) (by omega)), fun m hm => upd_other σ _ hm, ?_, ?_⟩
        · exact .inr ⟨⟨w.heap.size, 0, l.toNat⟩, l.toNat, upd_same .., by simp, Nat.le_refl _, by simp only; omega, by simp only; omega⟩
        · have := hM.cells (w' := { w with heap := w.heap.push (.cells ((List.replicate l.toNat z).map Value.string).toArray e) }) (elem := e) (arr := ((List.replicate l.toNat z).map Value.string).toArray) (lo := 0) (hi := 0) (hn nm (Nat.le_refl _) (by omega)) rfl rfl rfl rfl ⟨fun j hj => by omega, Nat.le_refl _⟩
            (cellsR_vec (E := E) (σ := σ) (v := .str) (xs := List.replicate l.toNat z) (fun _ _ => rfl)) (fun j v hv => by simpa only [List.getElem?_toArray] using hv) (by simp)
          simpa using this
      · rename_i z hz hno hno'
        split at hA
        · rename_i k hk
          refine fits_new hA hM hn fun hC => ?_
          obtain ⟨⟨c1, c2, c3⟩, c4, c5⟩ := hC
          have hrun := key hz rfl (by omega) (by omega) c1 c2 c3
          have hlen : (repeatL z.cells.toList l.toNat).length = l.toNat * i.size := by rw [repeatL_length]; simp [c4]
          refine ⟨_, _, upd σ nm (.at ⟨w.heap.size, 0, l.toNat * i.size⟩), run_v hrun, ext_upd _ (hn nm (Nat.le_refl _) (by omega)), fun m hm => upd_other σ _ hm, ?_, ?_⟩
          · exact .inr ⟨⟨w.heap.size, 0, l.toNat * i.size⟩, l.toNat, upd_same .., by simp, Nat.le_refl _, by simp only; omega, by simp only; omega⟩
          · have := hM.cells (w' := { w with heap := w.heap.push (.cells (repeatL z.cells.toList l.toNat).toArray e) }) (elem := e) (arr := (repeatL z.cells.toList l.toNat).toArray) (lo := 0) (hi := 0) (hn nm (Nat.le_refl _) (by omega)) rfl rfl rfl rfl ⟨fun j hj => by omega, Nat.le_refl _⟩
              (cellsOfV_R (E := E) (σ := σ) hk) (fun j v hv => by simpa using hv) (by simp)
            simpa [hlen] using this
        · cases hA
      · cases hA
    · cases hA
  · cases hA

end
end Go.Vm
