/- What a deed of the small machine is worth, seventh part: structs, slices, strings. -/
import Derived.Test.YtfkmfdjdppjijaaVnH
import Derived.Laws.BytesString
set_option linter.unusedVariables false
set_option linter.unusedSimpArgs false
namespace Go.Vm
open Go

section
variable {E : Env} {σ : Sig} {nm : Nat} {M : Mem} {w : World} {A : Deed} {r : Result Next} {P : Program}

abbrev PartsR (E : Env) (σ : Sig) (parts : List (Nat × AV)) (vs : List (Nat × Value)) : Prop := All2 (fun (p : Nat × AV) (q : Nat × Value) => p.1 = q.1 ∧ AVR E σ p.2 q.2) parts vs

theorem run_places : ∀ (fs : List Field) (ps : List (Nat × Nat)), placesOf P fs = some ps → (fs.mapM fun f => (do pure (f.offset, ← sizeOf f.type) : Sem (Nat × Nat))).run P w = .ok ps w
  | [], ps, h => by simp only [placesOf, Option.some.injEq] at h; subst h; simp
  | f :: fs, ps, h => by
    simp only [placesOf] at h
    split at h
    · cases h
    · rename_i s hs
      split at h
      · cases h
      · rename_i l hl
        simp only [Option.some.injEq] at h
        subst h
        simp only [List.mapM_cons, Sem.run_bind, run_sz hs, Result.andThen_ok, Sem.run_pure, run_places fs l hl]

theorem fits_build {t : TypeId} {parts : List (Nat × AV)} {vs : Array (Nat × Value)} (hp : PartsR E σ parts vs.toList) (hM : MemR E σ M w) (hA : buildOp E.P t parts = some A) :
    Fits E σ nm M A ((do pure (.value (← Instr.build t vs)) : Sem Next).run E.P w) := by
  unfold buildOp at hA
  split at hA
  · rename_i z fs hz ht
    split at hA
    · cases hA
    · rename_i ps hps
      split at hA
      · cases hA
      · rename_i k0 hk0
        split at hA
        · rename_i C k hf
          refine fits_pure hA hM fun hC => ?_
          obtain ⟨cs', h1, h2, h3⟩ := fill_R (fun i => ps[i]?) parts vs.toList k0 k z.cells C hp (cellsOfV_R hk0) hf hC
          refine ⟨.agg cs', run_v ?_, by simpa using h2.av⟩
          have hm : (fs.mapM fun f => (do pure (f.offset, ← sizeOf f.type) : Sem (Nat × Nat))).run E.P w = .ok ps.toArray w := by
            rw [Array.mapM_eq_mapM_toList]
            simp only [Sem.run_map, run_places fs.toList ps hps, Result.andThen_ok]
          simp only [Instr.build, Sem.run_bind, run_zero hz, run_und ht, Result.andThen_ok, hm]
          have : (fun x : Nat => ps.toArray[x]?) = fun i : Nat => ps[i]? := by funext i; simp
          simp only [this, h1]
          rfl
        · cases hA
  · rename_i z len e hz ht
    split at hA
    · cases hA
    · rename_i s hs
      split at hA
      · cases hA
      · rename_i k0 hk0
        split at hA
        · rename_i C k hf
          refine fits_pure hA hM fun hC => ?_
          obtain ⟨cs', h1, h2, h3⟩ := fill_R (fun i => some (i * s, s)) parts vs.toList k0 k z.cells C hp (cellsOfV_R hk0) hf hC
          refine ⟨.agg cs', run_v ?_, by simpa using h2.av⟩
          simp only [Instr.build, Sem.run_bind, run_zero hz, run_und ht, Result.andThen_ok, run_sz hs, h1]
          rfl
        · cases hA
  · cases hA

theorem repeatL_length {α : Type} (l : List α) : ∀ n, (repeatL l n).length = n * l.length
  | 0 => by simp [repeatL]
  | n + 1 => by simp [repeatL, repeatL_length l n, Nat.succ_mul, Nat.add_comm]

theorem repeatL_get {α : Type} (l : List α) (hl : 0 < l.length) : ∀ n j, j < n * l.length → (repeatL l n)[j]? = l[j % l.length]?
  | 0, j, h => by omega
  | n + 1, j, h => by
    simp only [repeatL]
    by_cases hj : j < l.length
    · rw [List.getElem?_append_left hj, Nat.mod_eq_of_lt hj]
    · rw [List.getElem?_append_right (by omega), repeatL_get l hl n (j - l.length) (by rw [Nat.add_mul, Nat.one_mul] at h; omega)]
      congr 1
      rw [← Nat.mod_eq_sub_mod (by omega)]

theorem range_repeat (z : Array Value) (n : Nat) (hz : 0 < z.size) : ((Array.range (n * z.size)).map (z[· % z.size]!)).toList = repeatL z.toList n := by
  apply List.ext_getElem?
  intro j
  by_cases hj : j < n * z.size
  · rw [repeatL_get z.toList (by simpa using hz) n j (by simpa using hj)]
    have : j % z.size < z.size := Nat.mod_lt _ hz
    simp [hj, this]
  · rw [List.getElem?_eq_none (by simp; omega), List.getElem?_eq_none (by rw [repeatL_length]; simp; omega)]

theorem fits_buildSlice {t : TypeId} {len : Nat} {parts : List (Nat × AV)} {vs : Array (Nat × Value)} (hp : PartsR E σ parts vs.toList) (hM : MemR E σ M w) (hn : ∀ m, nm ≤ m → m < nm + 16 → σ m = .unset)
    (hA : buildSliceOp E.P t len parts nm = some A) : Fits E σ nm M A ((do pure (.value (← Instr.buildSlice t len vs)) : Sem Next).run E.P w) := by
  unfold buildSliceOp at hA
  split at hA
  · rename_i e ht
    split at hA
    · rename_i s z hs hz
      cases h0 : Nat.beq s 0
      · simp only [h0, cond_false] at hA
        split at hA
        · cases hA
        · rename_i k0 hk0
          split at hA
          · rename_i C k hf
            have hs0 : s ≠ 0 := Nat.ne_of_beq_eq_false h0
            refine fits_new hA hM hn fun hC => ?_
            obtain ⟨hC1, hC2, hC3⟩ := hC
            have hrep := range_repeat z.cells len (by omega)
            obtain ⟨cs', h1, h2, h3⟩ := fill_R (fun i => some (i * s, s)) parts vs.toList k0 k ((Array.range (len * s)).map (z.cells[· % z.cells.size]!)) C hp
              (by have := cellsOfV_R (E := E) (σ := σ) hk0; rw [← hC3, hrep]; exact this) hf hC1
            have hsize : cs'.size = len * s := by rw [h3]; simp
            refine ⟨.slice (some ⟨w.heap.size, 0, none⟩) len len, { w with heap := w.heap.push (.cells cs' e) }, upd σ nm (.at ⟨w.heap.size, 0, cs'.size⟩), run_v ?_, ext_upd _ (hn nm (Nat.le_refl _) (by omega)), fun m hm => upd_other σ _ hm, ?_, ?_⟩
            · unfold Instr.buildSlice
              simp only [Sem.run_bind, run_und ht, Result.andThen_ok, run_sz hs]
              rw [if_neg (by omega)]
              by_cases hl : len * s = 0
              · simp only [hl, if_true, Sem.run_pure, Result.andThen_ok]
                rw [hl] at h1
                have e0 : ∀ f : Nat → Value, (Array.range 0).map f = #[] := fun f => by simp [Array.range]
                simp only [e0] at h1
                simp only [pure_bind, e0, h1]
                simp [newRow]
              · simp only [hl, if_false, Sem.run_bind, run_zero hz, Result.andThen_ok, Sem.run_pure]
                simp [h1, newRow]
            · refine .inr ⟨⟨w.heap.size, 0, cs'.size⟩, len, upd_same .., by simp, Nat.le_refl _, by simp only; omega, by simp only; omega⟩
            · exact hM.cells (hn nm (Nat.le_refl _) (by omega)) rfl rfl rfl rfl ⟨fun j hj => by omega, Nat.le_refl _⟩ h2 (fun j v hv => by simpa using hv) (by simp)
          · cases hA
      · simp only [h0, cond_true] at hA
        cases hA
    · cases hA
  · cases hA

/-! ### parts of values -/
theorem part_R {k : Blk} {cs : List Value} {t : TypeId} {a : Bool} {o s : Nat} (hk : CellsR E σ k cs) (ha : isAggT P t = some a) (hs : sizeT P t = some s) (hC : (k.part a o s).1) :
    ∃ V, (part t cs.toArray o).run P w = .ok V w ∧ AVR E σ (k.part a o s).2 V := by
  obtain ⟨g1, g2, g3⟩ := hk
  cases a with
  | true =>
    simp only [Blk.part] at hC ⊢
    obtain ⟨h1, h2, h3, h4⟩ := Blk.sub_get g1 hC
    have hk2 : CellsR E σ (k.sub o s).2 ((cs.drop o).take s) := by
      refine ⟨h1, by simp; omega, fun j sc hsc => ?_⟩
      have hj := Blk.get?_lt h1 hsc
      rw [h2] at hj
      rw [h4 j hj] at hsc
      obtain ⟨v, hv, hr⟩ := g3 _ _ hsc
      exact ⟨v, by rw [List.getElem?_take, if_pos hj, List.getElem?_drop]; exact hv, hr⟩
    refine ⟨.agg ((cs.drop o).take s).toArray, ?_, hk2.av⟩
    unfold part
    simp only [Sem.run_bind, run_ag ha, Result.andThen_ok, if_true, run_sz hs, Sem.run_pure]
    congr 2
    rw [List.extract_toArray, List.extract_eq_take_drop, Nat.add_sub_cancel_left]
  | false =>
    simp only [Blk.part] at hC ⊢
    obtain ⟨v, hv, hr⟩ := g3 o _ (Blk.at_get g1 hC)
    refine ⟨v, ?_, hr⟩
    unfold part
    simp [run_ag ha, hv]

theorem fits_field {t : TypeId} {x : AV} {X : Value} {f : Nat} (hx : AVR E σ x X) (hM : MemR E σ M w) (hA : fieldOp E.P t x f = some A) :
    Fits E σ nm M A ((do pure (.value (← Instr.field t X f)) : Sem Next).run E.P w) := by
  unfold fieldOp at hA
  split at hA
  · rename_i fs ht
    split at hA
    · rename_i fd hfd
      have hf : fs[f]? = some fd := by simpa using hfd
      split at hA
      · rename_i a s k n xs ha hs
        obtain ⟨hx1, rfl⟩ := hx
        refine fits_pure hA hM fun hC => ?_
        obtain ⟨V, h1, h2⟩ := part_R (w := w) (E := E) (σ := σ) (cellsR_ints hx1) ha hs hC
        refine ⟨V, run_v ?_, h2⟩
        simp only [Instr.field, Sem.run_bind, run_und ht, Result.andThen_ok, hf, asAgg, Sem.run_pure]
        exact h1
      · rename_i a s l ha hs
        obtain ⟨arr, rfl, hx2⟩ := hx
        refine fits_pure hA hM fun hC => ?_
        obtain ⟨V, h1, h2⟩ := part_R (w := w) (E := E) (σ := σ) (cellsR_cells hx2) ha hs hC
        refine ⟨V, run_v ?_, h2⟩
        simp only [Instr.field, Sem.run_bind, run_und ht, Result.andThen_ok, hf, asAgg, Sem.run_pure]
        exact h1
      · cases hA
    · cases hA
  · cases hA

theorem bytesI_length (x : ByteArray) : (bytesI x).length = x.size := by simp [bytesI]

theorem byteAt_eq (x : ByteArray) (i : Nat) (h : i < x.size) : (bytesI x).getD i 0 = ((x[i]'h).toNat : Int) := by
  have : i < x.data.toList.length := by simpa using h
  simp only [bytesI, List.getD_eq_getElem?_getD, List.getElem?_map, List.getElem?_eq_getElem this, Option.map_some, Option.getD_some]
  rfl

theorem fits_index {t : TypeId} {x ix : AV} {X IX : Value} (hx : AVR E σ x X) (hix : AVR E σ ix IX) (hM : MemR E σ M w) (hA : indexOp E.P t x ix = some A) :
    Fits E σ nm M A ((do pure (.value (← Instr.index t X IX)) : Sem Next).run E.P w) := by
  unfold indexOp at hA
  split at hA
  · rename_i n e k m xs kk i ht
    simp only [AVR, ScR] at hix; subst hix
    obtain ⟨hx1, rfl⟩ := hx
    split at hA
    · rename_i a s ha hs
      refine fits_pure hA hM fun hC => ?_
      obtain ⟨hi, hC⟩ := hC
      obtain ⟨V, h1, h2⟩ := part_R (w := w) (E := E) (σ := σ) (cellsR_ints hx1) ha hs hC
      refine ⟨V, run_v ?_, h2⟩
      simp only [Instr.index, asIntOf, Sem.run_bind, Sem.run_pure, Result.andThen_ok, run_und ht, if_pos hi, run_sz hs]
      rw [adr_eq, Nat.zero_add] at h1
      exact h1
    · cases hA
  · rename_i n e l kk i ht
    simp only [AVR, ScR] at hix; subst hix
    obtain ⟨arr, rfl, hx2⟩ := hx
    split at hA
    · rename_i a s ha hs
      refine fits_pure hA hM fun hC => ?_
      obtain ⟨hi, hC⟩ := hC
      obtain ⟨V, h1, h2⟩ := part_R (w := w) (E := E) (σ := σ) (cellsR_cells hx2) ha hs hC
      refine ⟨V, run_v ?_, h2⟩
      simp only [Instr.index, asIntOf, Sem.run_bind, Sem.run_pure, Result.andThen_ok, run_und ht, if_pos hi, run_sz hs]
      rw [adr_eq, Nat.zero_add] at h1
      simpa using h1
    · cases hA
  · rename_i s kk i ht
    simp only [AVR, ScR] at hx hix; subst hx hix
    refine fits_pure hA hM fun hC => ?_
    obtain ⟨h0, h1⟩ := hC
    have hlt : i.toNat < s.size := by omega
    refine ⟨.int .u8 (byteAt s i), run_v ?_, rfl⟩
    have hg : s[i.toNat]? = some s[i.toNat] := getElem?_pos s i.toNat hlt
    simp only [Instr.index, asIntOf, Sem.run_bind, Sem.run_pure, Result.andThen_ok, run_und ht, if_pos h0, hg]
    simp only [byteAt, byteAt_eq s i.toNat hlt]
  · cases hA

theorem fits_len {t : TypeId} {ats : Array TypeId} {ty : TypeId} {x : AV} {X : Value} (hat : ats[0]? = some t) (hx : AVR E σ x X) (hM : MemR E σ M w) (hA : lenOp E.P t x = some A) :
    Fits E σ nm M A ((do pure (.value (← Builtin.len_ ats ty #[X])) : Sem Next).run E.P w) := by
  unfold lenOp at hA
  split at hA
  · rename_i s ht
    simp only [AVR, ScR] at hx; subst hx
    exact fits_pure hA hM fun hC => ⟨.int .i64 s.size, run_v (by simp [Builtin.len_, hat, run_und ht, goInt]), rfl⟩
  · rename_i _x n e ht
    exact fits_pure hA hM fun hC => ⟨.int .i64 n, run_v (by simp [Builtin.len_, hat, run_und ht, goInt]), rfl⟩
  · rename_i e b off len es cap ht
    refine fits_pure hA hM fun hC => ⟨.int .i64 len, run_v ?_, rfl⟩
    rcases hx with ⟨rfl, _, B, rfl⟩ | ⟨L, c, _, rfl, _⟩
    · simp [Builtin.len_, hat, run_und ht, goInt]
    · simp [Builtin.len_, hat, run_und ht, goInt]
  · rename_i e ht
    simp only [AVR, ScR] at hx; subst hx
    exact fits_pure hA hM fun hC => ⟨.int .i64 0, run_v (by simp [Builtin.len_, hat, run_und ht, goInt]), rfl⟩
  · rename_i e k xs ht
    obtain ⟨B, c, rfl, _⟩ := hx
    exact fits_pure hA hM fun hC => ⟨.int .i64 xs.length, run_v (by simp [Builtin.len_, hat, run_und ht, goInt]), rfl⟩
  · rename_i e xs ht
    obtain ⟨B, c, rfl, _⟩ := hx
    exact fits_pure hA hM fun hC => ⟨.int .i64 xs.length, run_v (by simp [Builtin.len_, hat, run_und ht, goInt]), rfl⟩
  · rename_i e xs ht
    obtain ⟨B, c, rfl, _⟩ := hx
    exact fits_pure hA hM fun hC => ⟨.int .i64 xs.length, run_v (by simp [Builtin.len_, hat, run_und ht, goInt]), rfl⟩
  · cases hA

theorem fits_min {ats : Array TypeId} {ty : TypeId} {xs : List AV} {Xs : Array Value} (hx : All2 (AVR E σ) xs Xs.toList) (hM : MemR E σ M w) (hA : minOp xs = some A) :
    Fits E σ nm M A ((do pure (.value (← Builtin.min_ ats ty Xs)) : Sem Next).run E.P w) := by
  unfold minOp at hA
  split at hA
  · rename_i k x k' y
    obtain ⟨L⟩ := Xs
    simp only at hx
    match L, hx with
    | [X, Y], ⟨h1, h2, _⟩ =>
      simp only [AVR, ScR] at h1 h2; subst h1 h2
      exact fits_pure hA hM fun hC => ⟨.int k (minI x y), run_v (by simp [Builtin.min_, Builtin.min2, minI]), rfl⟩
  · rename_i k x k' y k'' z
    obtain ⟨L⟩ := Xs
    simp only at hx
    match L, hx with
    | [X, Y, Z], ⟨h1, h2, h3, _⟩ =>
      simp only [AVR, ScR] at h1 h2 h3; subst h1 h2 h3
      exact fits_pure hA hM fun hC => ⟨.int k (minI (minI x y) z), run_v (by simp [Builtin.min_, Builtin.min2]; rfl), rfl⟩
  · cases hA

end
end Go.Vm
