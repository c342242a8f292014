/- Two functions of the library that have no body: which place a byte stands at first, and how often it stands there. -/
import Derived.Test.YtfkmfdjdppjijaaVnY
import Derived.Lib.Bytealg
set_option linter.unusedVariables false
set_option linter.unusedSimpArgs false
namespace Go.Vm
open Go

/-- A body-less function of values alone. -/
theorem Known.ext {P : Program} {G : Globs} {f : FuncId} {fn : Func} {e : Array Value → Sem Value} {spec : List AV → List Blk → Option (Prop × Ret)} (hf : P.funcs[f]? = some fn) (hname : (fn.name == "runtime.NumGoroutine") = false)
    (hb : fn.body.isNone = true) (hn : Extern.findNext fn = none) (he : Extern.find fn = some e)
    (h : ∀ (E : Env) (σ : Sig) (args : List AV) (Vs : Array Value) (C : Prop) (r : Ret) (w : World), spec args [] = some (C, r) → C → All2 (AVR E σ) args Vs.toList → r.bs = [] ∧ ∃ V, (e Vs).run P w = .ok V w ∧ AVR E σ r.v V) : Known P G f ⟨0, 0, spec⟩ := by
  refine ⟨Nat.zero_le _, ?_⟩
  intro E w args ks Vs C r hP hG hks hkp hM hargs hsp hC
  cases ks with
  | cons _ _ => cases hks
  | nil =>
    obtain ⟨h1, V, h2, h3⟩ := h E E.kp args Vs C r w hsp hC hargs
    refine .inr ⟨V, w, ?_, E, E.kp, .refl E, fun _ hj => absurd hj (by simp), h3, ?_⟩
    · rw [run_callFunc_extern hf hname hb hn he, h2]; rfl
    · rw [h1]; exact hM

theorem strEq_data (x y : ByteArray) : strEq x y = (x.data.toList == y.data.toList) := by
  unfold strEq
  rw [Lib.toList_data, Lib.toList_data]
theorem strEq_eq {x y : ByteArray} (h : strEq x y = true) : x = y := by
  rw [strEq_data, beq_iff_eq] at h
  obtain ⟨⟨l⟩⟩ := x
  obtain ⟨⟨m⟩⟩ := y
  have : l = m := h
  rw [this]
theorem size_bytesOf (xs : List Int) : (bytesOf xs).size = xs.length := by simp [bytesOf, ByteArray.size]
theorem strEq_nz {x : ByteArray} (h : (!(strEq x ⟨#[]⟩)) = true) : 0 < x.size := by
  rw [strEq_data] at h
  obtain ⟨⟨l⟩⟩ := x
  cases l with
  | nil => cases h
  | cons a r => show 0 < (a :: r).length; rw [List.length_cons]; omega
theorem strEq_nz' {x : ByteArray} (h : strEq x ⟨#[]⟩ = false) : 0 < x.size := strEq_nz (by rw [h]; rfl)
theorem size_sel {b : Bool} {x y : ByteArray} {n : Nat} (hx : x.size ≤ n) (hy : y.size ≤ n) : (sel b x y).size ≤ n := by
  cases b
  · rw [sel_false]; exact hy
  · rw [sel_true]; exact hx
theorem len_sel {α : Type} {b : Bool} {x y : List α} {n : Nat} (hx : x.length ≤ n) (hy : y.length ≤ n) : (sel b x y).length ≤ n := by
  cases b
  · rw [sel_false]; exact hy
  · rw [sel_true]; exact hx
def idxB (s : ByteArray) (c : Int) : Int := Lib.indexByte s.data.toList c.toNat.toUInt8
def cntB (s : ByteArray) (c : Int) : Nat := Lib.countByte s.data.toList c.toNat.toUInt8

theorem idx_lt : ∀ (l : List UInt8) (c : UInt8), Lib.indexByte l c < (l.length : Int)
  | [], c => by show (-1 : Int) < 0; decide
  | b :: l, c => by
    have := idx_lt l c
    unfold Lib.indexByte
    simp only [List.length_cons]
    split
    · omega
    · split <;> omega
theorem idx_in (s : ByteArray) (c : Int) : -1 ≤ idxB s c ∧ idxB s c < (s.size : Int) := by
  have h := idx_lt s.data.toList c.toNat.toUInt8
  rw [Array.length_toList] at h
  exact ⟨Lib.indexByte_ge _ _, h⟩
theorem cnt_le (s : ByteArray) (c : Int) : cntB s c ≤ s.size := by
  unfold cntB Lib.countByte
  exact Nat.le_trans List.count_le_length (by rw [Array.length_toList]; exact Nat.le_refl _)
theorem extract_le (s : ByteArray) (a b : Nat) : (s.extract a b).size ≤ s.size := by
  rw [ByteArray.size_extract]
  omega
theorem extract_le' (s : ByteArray) (a b : Nat) : (s.extract a b).size ≤ b - a := by
  rw [ByteArray.size_extract]
  omega

def specIdx : List AV → List Blk → Option (Prop × Ret)
  | [.sc (.s s), .sc (.i .u8 c)], [] => some (True, ⟨.sc (.i .i64 (idxB s c)), []⟩)
  | _, _ => none
def specCnt : List AV → List Blk → Option (Prop × Ret)
  | [.sc (.s s), .sc (.i .u8 c)], [] => some (True, ⟨.sc (.i .i64 ((cntB s c : Nat) : Int)), []⟩)
  | _, _ => none

theorem two_args {E : Env} {σ : Sig} {s : ByteArray} {c : Int} {Vs : Array Value} (h : All2 (AVR E σ) [.sc (.s s), .sc (.i .u8 c)] Vs.toList) : Vs = #[.string s, .int .u8 c] := by
  obtain ⟨l⟩ := Vs
  match l, h with
  | [a, b], ⟨h1, h2, _⟩ =>
    have e1 : a = .string s := h1
    have e2 : b = .int .u8 c := h2
    subst e1 e2
    rfl

theorem known_idx {P : Program} {G : Globs} {f : FuncId} {fn : Func} (hf : P.funcs[f]? = some fn) (hname : (fn.name == "runtime.NumGoroutine") = false) (hb : fn.body.isNone = true) (hn : Extern.findNext fn = none)
    (he : Extern.find fn = some Extern.BytealgIndexByte.indexByte) : Known P G f ⟨0, 0, specIdx⟩ :=
  Known.ext hf hname hb hn he fun E σ args Vs C r w hs hC ha => by
    unfold specIdx at hs
    split at hs
    · cases hs
      rw [two_args ha]
      exact ⟨rfl, _, Lib.run_indexByteString _ _ w, rfl⟩
    · cases hs
theorem known_cnt {P : Program} {G : Globs} {f : FuncId} {fn : Func} (hf : P.funcs[f]? = some fn) (hname : (fn.name == "runtime.NumGoroutine") = false) (hb : fn.body.isNone = true) (hn : Extern.findNext fn = none)
    (he : Extern.find fn = some Extern.BytealgCount.count) : Known P G f ⟨0, 0, specCnt⟩ :=
  Known.ext hf hname hb hn he fun E σ args Vs C r w hs hC ha => by
    unfold specCnt at hs
    split at hs
    · cases hs
      rw [two_args ha]
      exact ⟨rfl, _, Lib.run_countString _ _ w, rfl⟩
    · cases hs

end Go.Vm
