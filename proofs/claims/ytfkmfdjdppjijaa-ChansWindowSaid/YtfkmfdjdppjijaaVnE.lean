/- What a deed of the small machine is worth, third part: operators, conversions of numbers, fields, indexes, places. -/
import Derived.Test.YtfkmfdjdppjijaaVnD
import Derived.Laws.Strings
import Derived.Lib.SliceRun
set_option linter.unusedVariables false
set_option linter.unusedSimpArgs false
namespace Go.Vm
open Go

section
variable {E : Env} {σ : Sig} {nm : Nat} {M : Mem} {w : World} {A : Deed} {r : Result Next}

theorem bin_run {P : Program} {op : BinOp} {t : TypeId} {ox oy : Operand} {X Y V : Value} (hg : (eqGuard op t ox oy X Y).run P w = .ok () w) (hb : (binOp op t X Y).run P w = .ok V w) :
    (do pure (.value (← (do eqGuard op t ox oy X Y; binOp op t X Y))) : Sem Next).run P w = .ok (.value V) w := by
  simp [hg, hb]

theorem run_equal_sc {P : Program} {t : TypeId} {X Y : Value} {b : Bool} (h : (Op.equalIn 10000 t X Y).run P w = .ok b w) : (Op.equal t X Y).run P w = .ok b w := h

theorem binOp_eql_other {P : Program} {t : TypeId} {X Y : Value} {b : Bool} (h : (Op.equalIn 10000 t X Y).run P w = .ok b w)
    (hX : (∃ x, X = .bool x) ∨ (∃ a, X = .pointer a) ∨ (∃ a n c, X = .slice a n c) ∨ (∃ cs, X = .agg cs)) :
    (binOp .eql t X Y).run P w = .ok (.bool b) w ∧ (binOp .neq t X Y).run P w = .ok (.bool (!b)) w := by
  have h' := run_equal_sc h
  rcases hX with ⟨x, rfl⟩ | ⟨a, rfl⟩ | ⟨a, n, c, rfl⟩ | ⟨cs, rfl⟩ <;> constructor <;> simp [binOp, h']

theorem eqIn_ptr {P : Program} (d : Nat) {t e : TypeId} (ht : P.underlying t = some (.pointer e)) (a : Option Addr) : (Op.equalIn (d + 1) t (.pointer a) (.pointer none)).run P w = .ok a.isNone w := by
  cases a <;> simp [Op.equalIn, underlying, ht]
theorem eqIn_slice {P : Program} (d : Nat) {t e : TypeId} (ht : P.underlying t = some (.slice e)) (a : Addr) (n c : Nat) : (Op.equalIn (d + 1) t (.slice (some a) n c) (.slice none 0 0)).run P w = .ok false w := by
  simp [Op.equalIn, underlying, ht]
theorem eqIn_slice0 {P : Program} (d : Nat) {t e : TypeId} (ht : P.underlying t = some (.slice e)) : (Op.equalIn (d + 1) t (.slice none 0 0) (.slice none 0 0)).run P w = .ok true w := by
  simp [Op.equalIn, underlying, ht]

theorem fits_binop {op : BinOp} {t : TypeId} {ox oy : Operand} {x y : AV} {X Y : Value} (hx : AVR E σ x X) (hy : AVR E σ y Y) (hM : MemR E σ M w) (hA : binop E.P op t x y = some A) :
    Fits E σ nm M A ((do pure (.value (← (do eqGuard op t ox oy X Y; binOp op t X Y))) : Sem Next).run E.P w) := by
  unfold binop at hA
  split at hA
  · -- integers
    rename_i k a k' b
    simp only [AVR, ScR] at hx hy
    subst hx hy
    have hg : (eqGuard op t ox oy (.int k a) (.int k' b)).run E.P w = .ok () w := eqGuard_sc (by intro cs h; cases h) (by intro h; cases h)
    split at hA
    · refine fits_pure hA hM fun hC => ⟨_, bin_run hg (by simp [binOp, Op.shift, show ¬ b < 0 from by omega]; rfl), rfl⟩
    · refine fits_pure hA hM fun hC => ⟨_, bin_run hg (by simp [binOp, Op.shift, show ¬ b < 0 from by omega]; rfl), rfl⟩
    · rename_i h1 h2
      split at hA
      · rename_i hk
        subst hk
        split at hA
        · rename_i C s hs
          refine fits_pure hA hM fun hC => ?_
          obtain ⟨V, h3, h4⟩ := run_binInt (E := E) (σ := σ) (w := w) (P := E.P) (t := t) hs hC
          exact ⟨V, bin_run hg h3, h4⟩
        · cases hA
      · cases hA
  · -- strings
    rename_i a b
    simp only [AVR, ScR] at hx hy
    subst hx hy
    have hg : (eqGuard op t ox oy (.string a) (.string b)).run E.P w = .ok () w := eqGuard_sc (by intro cs h; cases h) (by intro h; cases h)
    split at hA
    · refine fits_pure hA hM fun hC => ⟨_, bin_run hg ?_, rfl⟩
      have : ¬ (((a.size + b.size : Nat) : Int) > IntKind.i64.max) := by
        have : IntKind.i64.max = 9223372036854775807 := by decide
        omega
      simp only [binOp, Op.stringOp, if_neg this]
      rfl
    · exact fits_pure hA hM fun hC => ⟨_, bin_run hg (by simp [binOp, Op.stringOp]; rfl), rfl⟩
    · exact fits_pure hA hM fun hC => ⟨_, bin_run hg (by simp [binOp, Op.stringOp]; rfl), rfl⟩
    · cases hA
  · -- bools
    rename_i a b
    simp only [AVR, ScR] at hx hy
    subst hx hy
    have hg : (eqGuard op t ox oy (.bool a) (.bool b)).run E.P w = .ok () w := eqGuard_sc (by intro cs h; cases h) (by intro h; cases h)
    split at hA
    · rename_i ht
      have hq := binOp_eql_other (w := w) (run_equalIn_bool' w 9999 t a b ht) (.inl ⟨a, rfl⟩)
      split at hA
      · exact fits_pure hA hM fun hC => ⟨_, bin_run hg hq.1, rfl⟩
      · exact fits_pure hA hM fun hC => ⟨_, bin_run hg hq.2, rfl⟩
      · cases hA
    · cases hA
  · -- arrays of integers
    rename_i k n xs k' n' ys
    obtain ⟨hx1, rfl⟩ := hx
    obtain ⟨hy1, rfl⟩ := hy
    split at hA
    · rename_i m e ht
      split at hA
      · rename_i kk he hs
        split at hA
        · rename_i hk
          obtain ⟨rfl, rfl, rfl⟩ := hk
          have hg : (eqGuard op t ox oy (.agg (intVals k xs).toArray) (.agg (intVals k ys).toArray)).run E.P w = .ok () w := eqGuard_ints ht he
          have hq := binOp_eql_other (w := w) (run_equalIn_ints (w := w) (d := 9998) (k := k) ht he hs hx1 hy1) (.inr (.inr (.inr ⟨_, rfl⟩)))
          split at hA
          · exact fits_pure hA hM fun hC => ⟨_, bin_run hg hq.1, rfl⟩
          · exact fits_pure hA hM fun hC => ⟨_, bin_run hg hq.2, rfl⟩
          · cases hA
        · cases hA
      · cases hA
    · cases hA
  · -- a place against nil
    rename_i b o
    obtain ⟨L, hL, rfl⟩ := hx
    simp only [AVR, ScR] at hy
    subst hy
    have hg : (eqGuard op t ox oy (.pointer (some ⟨L.g, L.β + o, none⟩)) (.pointer none)).run E.P w = .ok () w := eqGuard_sc (by intro cs h; cases h) (by intro h; cases h)
    split at hA
    · rename_i e ht
      have hq := binOp_eql_other (w := w) (P := E.P) (t := t) (X := .pointer (some ⟨L.g, L.β + o, none⟩)) (Y := .pointer none) (b := false) (eqIn_ptr 9999 ht _) (.inr (.inl ⟨_, rfl⟩))
      exact fits_pure hA hM fun hC => ⟨_, bin_run hg hq.1, rfl⟩
    · rename_i e ht
      have hq := binOp_eql_other (w := w) (P := E.P) (t := t) (X := .pointer (some ⟨L.g, L.β + o, none⟩)) (Y := .pointer none) (b := false) (eqIn_ptr 9999 ht _) (.inr (.inl ⟨_, rfl⟩))
      exact fits_pure hA hM fun hC => ⟨_, bin_run hg hq.2, rfl⟩
    · cases hA
  · -- nil against nil
    simp only [AVR, ScR] at hx hy
    subst hx hy
    have hg : (eqGuard op t ox oy (.pointer none) (.pointer none)).run E.P w = .ok () w := eqGuard_sc (by intro cs h; cases h) (by intro h; cases h)
    split at hA
    · rename_i e ht
      have hq := binOp_eql_other (w := w) (P := E.P) (t := t) (X := .pointer none) (Y := .pointer none) (b := true) (eqIn_ptr 9999 ht _) (.inr (.inl ⟨_, rfl⟩))
      exact fits_pure hA hM fun hC => ⟨_, bin_run hg hq.1, rfl⟩
    · rename_i e ht
      have hq := binOp_eql_other (w := w) (P := E.P) (t := t) (X := .pointer none) (Y := .pointer none) (b := true) (eqIn_ptr 9999 ht _) (.inr (.inl ⟨_, rfl⟩))
      exact fits_pure hA hM fun hC => ⟨_, bin_run hg hq.2, rfl⟩
    · cases hA
  · -- a slice that is read, against nil
    rename_i k xs
    obtain ⟨a, c, rfl, hc, hr⟩ := hx
    simp only [AVR, ScR] at hy
    subst hy
    have hg : (eqGuard op t ox oy (.slice a xs.length c) (.slice none 0 0)).run E.P w = .ok () w := eqGuard_sc (by intro cs h; cases h) (by intro h; cases h)
    split at hA
    · rename_i e ht
      refine fits_pure hA hM fun hC => ?_
      obtain ⟨ad, rfl, _⟩ := hr hC
      have hq := binOp_eql_other (w := w) (P := E.P) (t := t) (X := .slice (some ad) xs.length c) (Y := .slice none 0 0) (b := false) (eqIn_slice 9999 ht _ _ _) (.inr (.inr (.inl ⟨_, _, _, rfl⟩)))
      exact ⟨_, bin_run hg hq.1, rfl⟩
    · rename_i e ht
      refine fits_pure hA hM fun hC => ?_
      obtain ⟨ad, rfl, _⟩ := hr hC
      have hq := binOp_eql_other (w := w) (P := E.P) (t := t) (X := .slice (some ad) xs.length c) (Y := .slice none 0 0) (b := false) (eqIn_slice 9999 ht _ _ _) (.inr (.inr (.inl ⟨_, _, _, rfl⟩)))
      exact ⟨_, bin_run hg hq.2, rfl⟩
    · cases hA
  · -- a slice against nil
    rename_i b off len es cap
    simp only [AVR, ScR] at hy
    subst hy
    split at hA
    · rename_i e ht
      refine fits_pure hA hM fun hC => ?_
      rcases hx with ⟨h0, _⟩ | ⟨L, c, hL, rfl, _⟩
      · omega
      have hg : (eqGuard .eql t ox oy (.slice (some ⟨L.g, L.β + off, none⟩) len c) (.slice none 0 0)).run E.P w = .ok () w := eqGuard_sc (by intro cs h; cases h) (by intro h; cases h)
      have hq := binOp_eql_other (w := w) (P := E.P) (t := t) (X := .slice (some ⟨L.g, L.β + off, none⟩) len c) (Y := .slice none 0 0) (b := false) (eqIn_slice 9999 ht _ _ _) (.inr (.inr (.inl ⟨_, _, _, rfl⟩)))
      exact ⟨_, bin_run hg hq.1, rfl⟩
    · rename_i e ht
      refine fits_pure hA hM fun hC => ?_
      rcases hx with ⟨h0, _⟩ | ⟨L, c, hL, rfl, _⟩
      · omega
      have hg : (eqGuard .neq t ox oy (.slice (some ⟨L.g, L.β + off, none⟩) len c) (.slice none 0 0)).run E.P w = .ok () w := eqGuard_sc (by intro cs h; cases h) (by intro h; cases h)
      have hq := binOp_eql_other (w := w) (P := E.P) (t := t) (X := .slice (some ⟨L.g, L.β + off, none⟩) len c) (Y := .slice none 0 0) (b := false) (eqIn_slice 9999 ht _ _ _) (.inr (.inr (.inl ⟨_, _, _, rfl⟩)))
      exact ⟨_, bin_run hg hq.2, rfl⟩
    · cases hA
  · -- two nil slices
    simp only [AVR, ScR] at hx hy
    subst hx hy
    have hg : (eqGuard op t ox oy (.slice none 0 0) (.slice none 0 0)).run E.P w = .ok () w := eqGuard_sc (by intro cs h; cases h) (by intro h; cases h)
    split at hA
    · rename_i e ht
      have hq := binOp_eql_other (w := w) (P := E.P) (t := t) (X := .slice none 0 0) (Y := .slice none 0 0) (b := true) (eqIn_slice0 9999 ht) (.inr (.inr (.inl ⟨_, _, _, rfl⟩)))
      exact fits_pure hA hM fun hC => ⟨_, bin_run hg hq.1, rfl⟩
    · rename_i e ht
      have hq := binOp_eql_other (w := w) (P := E.P) (t := t) (X := .slice none 0 0) (Y := .slice none 0 0) (b := true) (eqIn_slice0 9999 ht) (.inr (.inr (.inl ⟨_, _, _, rfl⟩)))
      exact fits_pure hA hM fun hC => ⟨_, bin_run hg hq.2, rfl⟩
    · cases hA
  · cases hA

theorem fits_unop {op : UnOp} {x : AV} {X : Value} (hx : AVR E σ x X) (hM : MemR E σ M w) (hA : unop op x = some A) :
    Fits E σ nm M A ((do pure (.value (← Op.unary op X)) : Sem Next).run E.P w) := by
  unfold unop at hA
  split at hA
  · simp only [AVR, ScR] at hx; subst hx
    exact fits_pure hA hM fun hC => ⟨_, run_v (V := .int _ _) rfl, rfl⟩
  · simp only [AVR, ScR] at hx; subst hx
    exact fits_pure hA hM fun hC => ⟨_, run_v (V := .int _ _) rfl, rfl⟩
  · simp only [AVR, ScR] at hx; subst hx
    exact fits_pure hA hM fun hC => ⟨_, run_v (V := .bool _) rfl, rfl⟩
  · cases hA

end
end Go.Vm
