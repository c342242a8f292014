/- What a deed of the small machine is worth, tenth part: every operation but a call of a Go function. -/
import Derived.Test.YtfkmfdjdppjijaaVnK
set_option linter.unusedVariables false
set_option linter.unusedSimpArgs false
namespace Go.Vm
open Go

section
variable {E : Env} {σ : Sig} {nm : Nat} {M : Mem} {w : World} {A : Deed} {r : Result Next} {P : Program} {G : Globs} {fr : Fr} {a : Act}

theorem evAll_R (hG : GlobsOk E G) (hf : FrR E σ fr a) : ∀ {l : List Operand} {vs : List AV}, evAll (ev G fr) l = some vs → All2 (AVR E σ) vs (l.map a.eval)
  | [], vs, h => by simp only [evAll, Option.some.injEq] at h; subst h; trivial
  | o :: l, vs, h => by
    simp only [evAll] at h
    split at h
    · cases h
    · rename_i v hv
      split at h
      · cases h
      · rename_i us hus
        simp only [Option.some.injEq] at h
        subst h
        exact ⟨ev_R hG hf hv, evAll_R hG hf hus⟩

theorem evParts_R (hG : GlobsOk E G) (hf : FrR E σ fr a) : ∀ {l : List (Nat × Operand)} {vs : List (Nat × AV)}, evParts (ev G fr) l = some vs → PartsR E σ vs (l.map fun x => (x.1, a.eval x.2))
  | [], vs, h => by simp only [evParts, Option.some.injEq] at h; subst h; trivial
  | (i, o) :: l, vs, h => by
    simp only [evParts] at h
    split at h
    · cases h
    · rename_i v hv
      split at h
      · cases h
      · rename_i us hus
        simp only [Option.some.injEq] at h
        subst h
        exact ⟨⟨rfl, ev_R hG hf hv⟩, evParts_R hG hf hus⟩

theorem evOpt_R (hG : GlobsOk E G) (hf : FrR E σ fr a) {o : Option Operand} {v : Option AV} (h : evOpt (ev G fr) o = some v) : BndR E σ v (o.map a.eval) := by
  cases o with
  | none => simp only [evOpt, Option.some.injEq] at h; subst h; trivial
  | some x =>
    simp only [evOpt] at h
    split at h
    · rename_i u hu
      simp only [Option.some.injEq] at h
      subst h
      exact ev_R hG hf hu
    · cases h

theorem A1R.up {v : A1} {V : Value} (h : A1R E σ v V) : AVR E σ v.up V := by cases v <;> exact h

theorem Blk.av_R {k : Blk} {cs : List Value} (h : CellsR E σ k cs) : AVR E σ k.av (.agg cs.toArray) := h.av

theorem fits_copy {t u ty : TypeId} {dst src : AV} {D S : Value} (hd : AVR E σ dst D) (hs : AVR E σ src S) (hM : MemR E σ M w) (hA : copyOp E.P t dst src = some A) :
    Fits E σ nm M A ((do pure (.value (← Builtin.copy_ #[t, u] ty #[D, S])) : Sem Next).run E.P w) := by
  unfold copyOp at hA
  split at hA
  · rename_i e ht
    split at hA
    · rename_i s b off len es cap rs f hsz hsrc
      split at hA
      · cases hA
      · simp only [Option.some.injEq] at hA
        subst hA
        intro C v M' hrun hC
        simp only [Deed.run, lookAll] at hrun
        cases hk0 : look b M with
        | none => simp [hk0] at hrun
        | some k0 =>
          cases hbs : lookAll M rs with
          | none => simp [hk0, hbs] at hrun
          | some bs =>
            cases hf : f bs with
            | none => simp [hk0, hbs, hf] at hrun
            | some x =>
              obtain ⟨C1, m, k⟩ := x
              cases hput : k0.putS off k.av with
              | none => simp [hk0, hbs, hf, hput] at hrun
              | some y =>
                obtain ⟨C2, m', k'⟩ := y
                simp only [hk0, hbs, hf, hput, putAll, put0, Option.some.injEq, Prod.mk.injEq] at hrun
                obtain ⟨rfl, rfl, rfl⟩ := hrun
                obtain ⟨⟨⟨⟨c1, c2⟩, c3, rfl⟩, c5, c6⟩, rfl⟩ := hC
                obtain ⟨s1, cs, s2, s3, s4, s5⟩ := src_R (P := E.P) hs hM hsrc hbs hf c1 c6 c3
                have hgood := hM.good hk0
                have hav := s3.av
                obtain ⟨p1, p2, p3, p4, p5, p6⟩ := Blk.putS_get hgood hav hput c2
                simp only [Value.cells] at p4 p5 p6
                have hmin : Nat.min m len = m := Nat.min_eq_left c5
                rcases hd with ⟨rfl, _, B, rfl⟩ | ⟨L, c, hL, rfl, hlc, _⟩
                · -- nothing has room
                  have hm : m = 0 := by omega
                  subst hm
                  have hcs : cs = [] := List.eq_nil_of_length_eq_zero (by omega)
                  subst hcs
                  refine ⟨.int .i64 (0 : Nat), w, σ, .inl (run_v ?_), .refl _, fun _ _ => rfl, rfl, ?_⟩
                  · have := s5 w rfl
                    cases B <;> simp [Builtin.copy_, run_und ht, run_sz hsz, s1, this, storeCells, goInt]
                  · -- the block is as it was
                    refine ⟨fun b' x hb' => ?_, fun b' c' x y L L' hb' hc' => ?_, hM.old, hM.size, hM.olds, hM.os, hM.tape, hM.output⟩
                    · rw [look_put1] at hb'
                      by_cases e : b' = b
                      · rw [if_pos e] at hb'
                        injection hb' with hb'
                        subst hb' e
                        have hB := hM.blk b' k0 hk0
                        revert hB
                        cases σ b' with
                        | unset => exact fun h => h
                        | nil => exact fun h => ⟨by rw [p2]; exact h.1, p1⟩
                        | «at» L =>
                          rintro ⟨_, arr, elem, lo, hi, q1, q2, q3, q4, q5, q6⟩
                          refine ⟨p1, arr, elem, lo, hi, q1, q2, by omega, q4, q5, fun j sc hsc => ?_⟩
                          have := p6 j sc hsc
                          rw [if_neg (by omega)] at this
                          exact q6 j sc this
                      · rw [if_neg e] at hb'
                        exact hM.blk b' x hb'
                    · have get : ∀ q z, look q (put1 b k' M) = some z → ∃ z', look q M = some z' := by
                        intro q z hq
                        rw [look_put1] at hq
                        by_cases e : q = b
                        · subst e; exact ⟨k0, hk0⟩
                        · rw [if_neg e] at hq; exact ⟨z, hq⟩
                      obtain ⟨x', hx'⟩ := get b' x hb'
                      obtain ⟨y', hy'⟩ := get c' y hc'
                      exact hM.inj b' c' x' y' L L' hx' hy'
                · have hB := hM.blk b k0 hk0
                  rw [hL] at hB
                  obtain ⟨_, arr, elem, lo, hi, h1, h2, h3, h4, h5, h6⟩ := hB
                  obtain ⟨w', arr', a1, a2, a3, a4, a5, a6, a7, a8, a9⟩ := run_storeCells_any (P := E.P) L.g (L.β + off) elem lo hi cs 0 arr w h1 (by omega) s4 (by rw [h2]; exact h5.1)
                  refine ⟨.int .i64 (m : Nat), w', σ, .inl (run_v ?_), .refl _, fun _ _ => rfl, rfl, ?_⟩
                  · simp only [Builtin.copy_, Sem.run_bind, run_und ht, Result.andThen_ok, List.getElem?_toArray, List.getElem?_cons_zero, List.getElem?_cons_succ, s1, hmin, run_sz hsz, s5 w rfl]
                    simp [a1, goInt]
                  · refine hM.turn hk0 hL h1 a2 a3 a5 a6 a7 a8 a9 p1 p2 fun j sc hsc => ?_
                    have := p6 j sc hsc
                    rw [a4]
                    by_cases hj : off ≤ j ∧ j < off + m * s
                    · rw [if_pos hj] at this
                      obtain ⟨u, hu, hr⟩ := this
                      rw [if_pos (by omega)]
                      refine ⟨u, ?_, hr⟩
                      have : L.β + j - (L.β + off + 0) = j - off := by omega
                      rw [this]; simpa using hu
                    · rw [if_neg hj] at this
                      rw [if_neg (by omega)]
                      exact h6 j sc this
    · cases hA
  · cases hA

theorem fits_op {o : Oper} (hG : GlobsOk E G) (hf : FrR E σ fr a) (hM : MemR E σ M w) (hn : ∀ m, nm ≤ m → m < nm + 16 → σ m = .unset) (hA : opDeed E.P (ev G fr) nm o = some A) :
    Fits E σ nm M A ((execOp a.eval o).run E.P w) := by
  unfold opDeed at hA
  unfold execOp
  split at hA
  · rename_i x hop
    rw [hop]
    split at hA
    · rename_i v hv; exact fits_pure hA hM fun _ => ⟨_, rfl, ev_R hG hf hv⟩
    · cases hA
  · rename_i x hop
    rw [hop]
    split at hA
    · rename_i v hv; exact fits_pure hA hM fun _ => ⟨_, rfl, ev_R hG hf hv⟩
    · cases hA
  · rename_i c x y hop
    rw [hop]
    split at hA
    · rename_i b va vb hc hx hy
      have h1 := ev_R hG hf hc
      simp only [AVR, ScR] at h1
      refine fits_pure hA hM fun _ => ?_
      cases b
      · exact ⟨a.eval y, by simp [h1, asBool], ev_R hG hf hy⟩
      · exact ⟨a.eval x, by simp [h1, asBool], ev_R hG hf hx⟩
    · rename_i b va hc hx hy
      have h1 := ev_R hG hf hc
      simp only [AVR, ScR] at h1
      refine fits_pure hA hM fun hC => ?_
      subst hC
      exact ⟨a.eval x, by simp [h1, asBool], ev_R hG hf hx⟩
    · rename_i b vb hc hx hy
      have h1 := ev_R hG hf hc
      simp only [AVR, ScR] at h1
      refine fits_pure hA hM fun hC => ?_
      subst hC
      exact ⟨a.eval y, by simp [h1, asBool], ev_R hG hf hy⟩
    · cases hA
  · rename_i t hop; rw [hop]; exact fits_alloc hM hn hA
  · rename_i t x hop; rw [hop]
    split at hA
    · rename_i v hv; exact fits_box (ev_R hG hf hv) hM hn hA
    · cases hA
  · rename_i t parts hop; rw [hop]
    split at hA
    · rename_i ps hps
      refine fits_build ?_ hM hA
      have := evParts_R hG hf hps
      simpa using this
    · cases hA
  · rename_i t len parts hop; rw [hop]
    split at hA
    · rename_i ps hps
      refine fits_buildSlice ?_ hM hn hA
      have := evParts_R hG hf hps
      simpa using this
    · cases hA
  · rename_i t x hop; rw [hop]
    split at hA
    · rename_i v hv; exact fits_load_op (ev_R hG hf hv) hM hA
    · cases hA
  · rename_i t x y hop; rw [hop]
    split at hA
    · rename_i u v hu hv; exact fits_store_op (ev_R hG hf hu) (ev_R hG hf hv) hM hA
    · cases hA
  · rename_i x hop; rw [hop]
    split at hA
    · rename_i b n hv
      have h1 := ev_R hG hf hv
      refine fits_pure hA hM fun _ => ⟨a.eval x, ?_, h1⟩
      obtain ⟨L, hL, hV⟩ := h1
      simp only [hV]
      rfl
    · cases hA
  · rename_i op t x y yt hop; rw [hop]
    split at hA
    · rename_i u v hu hv; exact fits_binop (ev_R hG hf hu) (ev_R hG hf hv) hM hA
    · cases hA
  · rename_i op t x hop; rw [hop]
    split at hA
    · rename_i u hu; exact fits_unop (ev_R hG hf hu) hM hA
    · cases hA
  · rename_i s d x hop; rw [hop]
    split at hA
    · rename_i u hu; exact fits_convert (ev_R hG hf hu) hM hn hA
    · cases hA
  · rename_i t x hop; rw [hop]
    split at hA
    · rename_i u hu; exact fits_arrayAt (ev_R hG hf hu) hM hA
    · cases hA
  · rename_i t x y hop; rw [hop]
    split at hA
    · rename_i u v hu hv; exact fits_makeSlice (ev_R hG hf hu) (ev_R hG hf hv) hM hn hA
    · cases hA
  · rename_i t x lo hi mx hop; rw [hop]
    split at hA
    · rename_i u l h m hu hl hh hm
      split at hA
      · cases hA
      · rename_i hno
        refine fits_slice (ev_R hG hf hu) (evOpt_R hG hf hl) (evOpt_R hG hf hh) (evOpt_R hG hf hm) hM ?_ hA
        intro h1 h2
        subst h2
        cases m with
        | none => exact h1 rfl
        | some x => simp at hno
    · cases hA
  · rename_i t x f hop; rw [hop]
    split at hA
    · rename_i u hu; exact fits_fieldAddr (ev_R hG hf hu) hM hA
    · cases hA
  · rename_i t x f hop; rw [hop]
    split at hA
    · rename_i u hu; exact fits_field (ev_R hG hf hu) hM hA
    · cases hA
  · rename_i t x y hop; rw [hop]
    split at hA
    · rename_i u v hu hv; exact fits_indexAddr (ev_R hG hf hu) (ev_R hG hf hv) hM hA
    · cases hA
  · rename_i t x y hop; rw [hop]
    split at hA
    · rename_i u v hu hv; exact fits_index (ev_R hG hf hu) (ev_R hG hf hv) hM hA
    · cases hA
  · rename_i x i hop; rw [hop]
    split at hA
    · rename_i l hl
      split at hA
      · rename_i v hv
        obtain ⟨arr, h1, h2⟩ := ev_R hG hf hl
        obtain ⟨V, h3, h4⟩ := h2.get i v hv
        refine fits_pure hA hM fun _ => ⟨V, run_v ?_, h4.up⟩
        have h5 : arr[i]? = some V := by simpa using h3
        simp [h1, Instr.extract, h5]
      · cases hA
    · cases hA
  · rename_i c hop; rw [hop]
    obtain ⟨callee, args, ats⟩ := c
    simp only at hA ⊢
    have hargs : ∀ vs, evAll (ev G fr) args.toList = some vs → All2 (AVR E σ) vs (args.map a.eval).toList := by
      intro vs h
      have := evAll_R hG hf h
      simpa using this
    split at hA
    · split at hA
      · rename_i t v hats hv
        obtain ⟨L⟩ := ats
        simp only at hats; subst hats
        have h1 := hargs _ hv
        match hA' : args.map a.eval, h1 with
        | ⟨[X]⟩, ⟨hx, _⟩ =>
          have : Fits E σ nm M A ((do pure (.value (← Builtin.len_ #[t] o.type #[X])) : Sem Next).run E.P w) := fits_len (t := t) rfl hx hM hA
          simp only [resolve, hA', pure_bind]
          exact this
      · cases hA
    · split at hA
      · rename_i vs hv
        have h1 := hargs _ hv
        have : Fits E σ nm M A ((do pure (.value (← Builtin.min_ ats o.type (args.map a.eval))) : Sem Next).run E.P w) := fits_min h1 hM hA
        simp only [resolve, pure_bind]
        exact this
      · cases hA
    · split at hA
      · rename_i t u d s hats hv
        obtain ⟨L⟩ := ats
        simp only at hats; subst hats
        have h1 := hargs _ hv
        match hA' : args.map a.eval, h1 with
        | ⟨[X, Y]⟩, ⟨hx, hy, _⟩ =>
          have : Fits E σ nm M A ((do pure (.value (← Builtin.append_ #[t, u] o.type #[X, Y])) : Sem Next).run E.P w) := fits_append hx hy hM hn hA
          simp only [resolve, hA', pure_bind]
          exact this
      · cases hA
    · split at hA
      · rename_i t u d s hats hv
        obtain ⟨L⟩ := ats
        simp only at hats; subst hats
        have h1 := hargs _ hv
        match hA' : args.map a.eval, h1 with
        | ⟨[X, Y]⟩, ⟨hx, hy, _⟩ =>
          have : Fits E σ nm M A ((do pure (.value (← Builtin.copy_ #[t, u] o.type #[X, Y])) : Sem Next).run E.P w) := fits_copy hx hy hM hA
          simp only [resolve, hA', pure_bind]
          exact this
      · cases hA
    · cases hA
  · cases hA

end
end Go.Vm
