/- Any bytes are read as the document has it, whatever is asked for. -/
import Derived.Test.YtclfmaifcelcpaaDoorPl6
import Derived.Test.YtclfmaifcelcpaaDoorWk6
set_option linter.unusedVariables false
set_option linter.unusedSimpArgs false
namespace Go.Vm
open Go

theorem texts_self (l : List ByteArray) : Fwtexts l l = true := by
  unfold Fwtexts
  have h1 : (((l.length : Nat) : Int) != ((l.length : Nat) : Int)) = false := by simp
  rw [h1, sel_false]
  have h2 : fstB (Fwtextss0 l l) l.length = l.length := by
    refine fst_none fun j hj => ?_
    unfold Fwtextss0
    rw [strEq_self]
    rfl
  rw [h2, blt_self, sel_false]

/-- Both readers stand at the same place. -/
def Rel (p : List Int) (k : Int) (b : Bool) (xs : List Int) (bd : Bool) : Prop := ∃ st, CurOk p k ∧ cst p k b = st ∧ xs = rb st ∧ bd = rbad st
theorem rel_end {p : List Int} {k : Int} {b : Bool} {xs : List Int} {bd : Bool} {ok : Bool} (hok : ok = true) (h : Rel p k b xs bd) :
    sel (!ok) true (sel (FwOk xs bd == b) true (sel (!(FwEnd xs bd == FwcEnd p k b)) true false)) = false := by
  obtain ⟨st, h1, h2, rfl, rfl⟩ := h
  subst h2
  rw [hok, ok_at, endr_at, cend_at b h1, cst_bad]
  cases b <;> simp [sel_true, sel_false]

theorem reads_step {p0 p1 : List Int} (hd : Dg p0) {k : Nat} {z : Int × Bool × List Int × Bool} (h : Rel p0 z.1 z.2.1 z.2.2.1 z.2.2.2) (hz : itr (FwWireReadsl0 p0 p1) k (0, false, p0, false) = z) :
    FwWireReadss0 p0 p1 k = false ∧ Rel p0 (FwWireReadsl0 p0 p1 k z).1 (FwWireReadsl0 p0 p1 k z).2.1 (FwWireReadsl0 p0 p1 k z).2.2.1 (FwWireReadsl0 p0 p1 k z).2.2.2 := by
  unfold FwWireReadss0
  rw [hz]
  unfold FwWireReadsl0
  obtain ⟨st, h1, h2, h3, h4⟩ := h
  obtain ⟨q, b, xs, bd⟩ := z
  simp only at h1 h2 h3 h4 ⊢
  subst h3 h4
  have hok : RdOk st := h2 ▸ cst_ok hd h1 b
  generalize iQuo .i64 (p1.getD k 0) 7 = n
  generalize iRem (iAdd .i64 (iRem (p1.getD k 0) 7) 7) 7 = K
  cases (K == 0)
  · cases (K == 1)
    · cases (K == 2)
      · cases (K == 3)
        · cases (K == 4)
          · cases (K == 5)
            · simp only [sel_false]
              obtain ⟨a1, a2, a3⟩ := bytes_at hok n
              obtain ⟨b1, b2⟩ := ctake_at b n h1
              have hr : Rel p0 (FwcTake_1 p0 q b n) (FwcTake_2 p0 q b n) (FwBytes_1 (rb st) (rbad st) n) (FwBytes_2 (rb st) (rbad st) n) :=
                ⟨_, ⟨h1.1, in_cTake b n h1⟩, rfl, by rw [a2, b2, h2], by rw [a3, b2, h2]⟩
              exact ⟨rel_end (by rw [a1, b1, h2]; exact strEq_self _) hr, hr⟩
            · simp only [sel_false, sel_true]
              obtain ⟨a1, a2, a3⟩ := int_at hok
              obtain ⟨b1, b2⟩ := cint_at b hd h1
              have hr : Rel p0 (FwcInt_1 p0 q b) (FwcInt_2 p0 q b) (FwInt_1 (rb st) (rbad st)) (FwInt_2 (rb st) (rbad st)) :=
                ⟨_, ⟨h1.1, in_cInt b h1⟩, rfl, by rw [a2, b2, h2], by rw [a3, b2, h2]⟩
              exact ⟨rel_end (by rw [a1, b1, h2]; exact strEq_self _) hr, hr⟩
          · simp only [sel_false, sel_true]
            obtain ⟨a1, a2, a3⟩ := names_at hok
            obtain ⟨b1, b2⟩ := cnames_at b hd h1
            have hr : Rel p0 (FwcNames_1 p0 q b) (FwcNames_2 p0 q b) (FwNames_1 (rb st) (rbad st)) (FwNames_2 (rb st) (rbad st)) :=
              ⟨_, ⟨h1.1, in_cNames b h1⟩, rfl, by rw [a2, b2, h2], by rw [a3, b2, h2]⟩
            exact ⟨rel_end (by rw [a1, b1, h2]; exact texts_self _) hr, hr⟩
        · simp only [sel_false, sel_true]
          obtain ⟨a1, a2, a3⟩ := text_at hok
          obtain ⟨b1, b2⟩ := ctext_at b hd h1
          have hr : Rel p0 (FwcText_1 p0 q b) (FwcText_2 p0 q b) (FwText_1 (rb st) (rbad st)) (FwText_2 (rb st) (rbad st)) :=
            ⟨_, ⟨h1.1, in_cText b h1⟩, rfl, by rw [a2, b2, h2], by rw [a3, b2, h2]⟩
          exact ⟨rel_end (by rw [a1, b1, h2]; exact strEq_self _) hr, hr⟩
      · simp only [sel_false, sel_true]
        obtain ⟨a1, a2, a3⟩ := u32_at hok
        obtain ⟨b1, b2⟩ := cu32_at b hd h1
        have hr : Rel p0 (FwcU32_1 p0 q b) (FwcU32_2 p0 q b) (FwU32_1 (rb st) (rbad st)) (FwU32_2 (rb st) (rbad st)) :=
          ⟨_, ⟨h1.1, in_cU32 b h1⟩, rfl, by rw [a2, b2, h2], by rw [a3, b2, h2]⟩
        have hlt := u32V_lt hok
        have w : IntKind.wrap .i64 ((u32V st : Nat) : Int) = ((u32V st : Nat) : Int) := wrap_small (by omega) (by omega)
        exact ⟨rel_end (by rw [a1, b1, h2, w]; simp) hr, hr⟩
    · simp only [sel_false, sel_true]
      obtain ⟨a1, a2, a3⟩ := flag_at st
      obtain ⟨b1, b2⟩ := cbyte_at b hd h1
      have hr : Rel p0 (FwcByte_1 p0 q b) (FwcByte_2 p0 q b) (FwFlag_1 (rb st) (rbad st)) (FwFlag_2 (rb st) (rbad st)) :=
        ⟨_, ⟨h1.1, in_cByte b h1⟩, rfl, by rw [a2, b2, h2], by rw [a3, b2, h2]⟩
      exact ⟨rel_end (by rw [a1, b1, h2]; simp) hr, hr⟩
  · simp only [sel_true]
    obtain ⟨a1, a2, a3⟩ := byte_at st
    obtain ⟨b1, b2⟩ := cbyte_at b hd h1
    have hr : Rel p0 (FwcByte_1 p0 q b) (FwcByte_2 p0 q b) (FwByte_1 (rb st) (rbad st)) (FwByte_2 (rb st) (rbad st)) :=
      ⟨_, ⟨h1.1, in_cByte b h1⟩, rfl, by rw [a2, b2, h2], by rw [a3, b2, h2]⟩
    have hx := dg_getD (hok.tk 1) 0
    have w : IntKind.wrap .i64 (byteV st) = byteV st := wrap_small (by unfold byteV; omega) (by unfold byteV; omega)
    exact ⟨rel_end (by rw [a1, b1, h2, w]; simp) hr, hr⟩

theorem reads_true {p0 p1 : List Int} (hd : Dg p0) : FwWireReads p0 p1 = true := by
  unfold FwWireReads
  rw [fit_true]
  show sel false _ _ = _
  rw [sel_false]
  cases h : decide (((p0.length : Nat) : Int) > 3000)
  · have hl := of_decide_eq_false h
    rw [sel_false]
    cases h' : decide (((p1.length : Nat) : Int) > 50)
    · rw [sel_false]
      have all : ∀ k, Rel p0 (itr (FwWireReadsl0 p0 p1) k (0, false, p0, false)).1 (itr (FwWireReadsl0 p0 p1) k (0, false, p0, false)).2.1 (itr (FwWireReadsl0 p0 p1) k (0, false, p0, false)).2.2.1 (itr (FwWireReadsl0 p0 p1) k (0, false, p0, false)).2.2.2 := by
        intro k
        induction k with
        | zero =>
          rw [itr_zero]
          exact ⟨some p0, ⟨by omega, Int.le_refl 0, Int.natCast_nonneg _⟩, rfl, rfl, rfl⟩
        | succ k ih =>
          rw [itr_succ]
          exact (reads_step (p1 := p1) (k := k) hd ih rfl).2
      have hf : fstB (FwWireReadss0 p0 p1) p1.length = p1.length := fst_none fun j hj => (reads_step (p1 := p1) (k := j) hd (all j) rfl).1
      rw [hf, blt_self, sel_false]
    · rw [sel_true]
  · rw [sel_true]

end Go.Vm
