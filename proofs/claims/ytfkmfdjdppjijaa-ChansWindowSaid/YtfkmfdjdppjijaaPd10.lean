/- Parts as the other side reads them. -/
import Derived.Test.YtfkmfdjdppjijaaPd9
set_option linter.unusedVariables false
set_option linter.unusedSimpArgs false
namespace Go.Vm
open Go
theorem dg_msg {n : Nat} {x : List Int} (h : Dg x) : Dg (msg n x) := by
  intro y hy
  unfold msg at hy
  rcases List.mem_cons.1 hy with rfl | hy
  · decide
  · rcases List.mem_append.1 hy with hy | hy
    · exact dg_be4 _ y hy
    · rcases List.mem_append.1 hy with hy | hy
      · exact dg_be4 _ y hy
      · rw [List.append_nil] at hy
        exact h y hy
theorem len_msg (n : Nat) (x : List Int) : (msg n x).length = 9 + x.length := by
  unfold msg
  rw [List.length_cons, List.length_append, List.length_append, List.append_nil, be4_length, be4_length]
  omega
/-- What the document's reader finds in a message: its kind, the channel, the bytes, and nothing behind. -/
def MsgReads (n : Nat) (x r : List Int) : Prop :=
    (FwcByte r 0 false = 94 ∧ CurOk r 0) ∧ (FwcU32 r (FwcByte_1 r 0 false) (FwcByte_2 r 0 false) = (n : Int) ∧ CurOk r (FwcByte_1 r 0 false)) ∧
    (FwcText r (FwcU32_1 r (FwcByte_1 r 0 false) (FwcByte_2 r 0 false)) (FwcU32_2 r (FwcByte_1 r 0 false) (FwcByte_2 r 0 false)) = bytesOf x ∧ CurOk r (FwcU32_1 r (FwcByte_1 r 0 false) (FwcByte_2 r 0 false))) ∧
    FwcEnd r (FwcText_1 r (FwcU32_1 r (FwcByte_1 r 0 false) (FwcByte_2 r 0 false)) (FwcU32_2 r (FwcByte_1 r 0 false) (FwcByte_2 r 0 false))) (FwcText_2 r (FwcU32_1 r (FwcByte_1 r 0 false) (FwcByte_2 r 0 false)) (FwcU32_2 r (FwcByte_1 r 0 false) (FwcByte_2 r 0 false))) = true
theorem msg_reads {n : Nat} (hn : n < 4294967296) {x : List Int} (hd : Dg x) (hl : x.length ≤ 512) {r : List Int} (hr : r = msg n x) : MsgReads n x r := by
  have hD : Dg r := by rw [hr]; exact dg_msg hd
  have hL : r.length ≤ 1000000000 := by rw [hr, len_msg]; omega
  have c0 : CurOk r 0 := ⟨hL, by decide, Int.natCast_nonneg _⟩
  have e0 : cst r 0 false = some (94 :: (be4 n ++ (be4 x.length ++ (x ++ [])))) := by rw [hr]; rfl
  obtain ⟨p1, p2⟩ := cbyte_at false hD c0
  have i1 := in_cByte false c0
  rw [e0] at p1 p2
  have c1 : CurOk r (FwcByte_1 r 0 false) := ⟨hL, i1.1, i1.2⟩
  have e1 : cst r (FwcByte_1 r 0 false) (FwcByte_2 r 0 false) = some (be4 n ++ (be4 x.length ++ (x ++ []))) := by
    rw [p2]
    show (if 1 ≤ (94 :: (be4 n ++ (be4 x.length ++ (x ++ [])))).length then some ((94 :: (be4 n ++ (be4 x.length ++ (x ++ [])))).drop 1) else none) = _
    rw [if_pos (by simp)]
    rfl
  obtain ⟨q1, q2⟩ := cu32_at (FwcByte_2 r 0 false) hD c1
  have i2 := in_cU32 (FwcByte_2 r 0 false) c1
  rw [e1] at q1 q2
  obtain ⟨u1, u2⟩ := u32_back n hn (be4 x.length ++ (x ++ []))
  rw [u1] at q1
  rw [u2] at q2
  have c2 : CurOk r (FwcU32_1 r (FwcByte_1 r 0 false) (FwcByte_2 r 0 false)) := ⟨hL, i2.1, i2.2⟩
  obtain ⟨t1, t2⟩ := ctext_at (FwcU32_2 r (FwcByte_1 r 0 false) (FwcByte_2 r 0 false)) hD c2
  have i3 := in_cText (FwcU32_2 r (FwcByte_1 r 0 false) (FwcByte_2 r 0 false)) c2
  obtain ⟨v1, v2⟩ := text_back x [] (by omega)
  rw [List.append_assoc] at v1 v2
  rw [q2, v1] at t1
  rw [q2, v2] at t2
  refine ⟨⟨p1, c0⟩, ⟨q1, c1⟩, ⟨t1, c2⟩, ?_⟩
  rw [cend_at _ ⟨hL, i3.1, i3.2⟩, t2]
  rfl
theorem minI_nat' (a b : Nat) : minI ((a : Nat) : Int) ((b : Nat) : Int) = ((min a b : Nat) : Int) := by
  unfold minI
  split <;> omega
/-- The end that is about to send. -/
def winC (p0 p1 : Int) (p2 : List Int) : Ch := ({chW p0.toNat p1.toNat with wait := p2} : Ch)
theorem winC_flow {p0 p1 : Int} {p2 : List Int} (hm : p1.toNat ≠ 0) (hl : p2.length ≤ 10000) : chFlow (winC p0 p1 p2) := by
  have h := chW_ok (w := p0.toNat) hm
  exact ⟨h.1, h.2.1, h.2.2.1, by show 0 + p2.length ≤ _; omega⟩
theorem part_len {p : Ch} (h : chFlow p) {j : Nat} (hj : j < flowN p) : (partAt p j).length = min p.most.toNat (flowM p - j * p.most.toNat) ∧ j * p.most.toNat < flowM p ∧ 0 < p.most.toNat := by
  obtain ⟨hJ, _⟩ := flow_at h j (by omega)
  obtain ⟨g1, g2, g3⟩ := flowJ_go h hJ hj
  obtain ⟨⟨hq, hkM⟩, _⟩ := flowJ_lt' h hJ (of_decide_eq_true g1) (of_decide_eq_true g2) (by cases hc : (itr Fcflowl0 j p).c0; rfl; rw [hc] at g3; cases g3)
  have hM : flowM p = min p.wait.length p.window.toNat := rfl
  refine ⟨?_, hkM, hq⟩
  unfold partAt
  rw [List.length_take, List.length_drop]
  omega
/-- At the end all has gone that may. -/
theorem flow_all {p : Ch} (h : chFlow p) (hc : p.c0 = false) (hq : 0 < p.most.toNat) : flowM p ≤ flowN p * p.most.toNat := by
  unfold flowN
  rw [hc, sel_false]
  have h1 := Nat.div_add_mod (flowM p + p.most.toNat - 1) p.most.toNat
  have h2 := Nat.mod_lt (flowM p + p.most.toNat - 1) hq
  rw [Nat.mul_comm] at h1
  omega
end Go.Vm
