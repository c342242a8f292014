/- What is written is read as it was. -/
import Derived.Test.YtclfmaifcelcpaaDoorPl8
import Derived.Test.YtclfmaifcelcpaaDoorWk6
set_option linter.unusedVariables false
set_option linter.unusedSimpArgs false
namespace Go.Vm
open Go

theorem texts_same (l : List ByteArray) : Fwtexts l l = true := by
  unfold Fwtexts
  have h1 : (((l.length : Nat) : Int) != ((l.length : Nat) : Int)) = false := by simp
  rw [h1, sel_false]
  have h2 : fstB (Fwtextss0 l l) l.length = l.length := by
    refine fst_none fun j hj => ?_
    unfold Fwtextss0
    rw [strEq_self]
    rfl
  rw [h2, blt_self, sel_false]

theorem fst_all {S : Nat → Bool} : ∀ {n : Nat}, Nat.blt (fstB S n) n = false → ∀ j, j < n → S j = false
  | 0, _, j, hj => absurd hj (Nat.not_lt_zero j)
  | n + 1, h, j, hj => by
    rw [fstB] at h
    cases hb : Nat.blt (fstB S n) n with
    | true =>
      rw [hb, cond_true] at h
      have h1 : fstB S n < n := by rwa [Nat.blt_eq] at hb
      rw [blt_true (show fstB S n < n + 1 by omega)] at h
      cases h
    | false =>
      rw [hb, cond_false] at h
      cases hs : S n with
      | true =>
        rw [hs, cond_true] at h
        rw [blt_true (show n < n + 1 by omega)] at h
        cases h
      | false =>
        by_cases hjn : j = n
        · rw [hjn]; exact hs
        · exact fst_all hb j (by omega)

theorem hasB_not {s : ByteArray} (h : hasB 44 s = false) : 44 ∉ s.data.toList := by
  intro hm
  obtain ⟨j, hj, he⟩ := List.mem_iff_getElem.1 hm
  rw [Array.length_toList] at hj
  have : hasB 44 s = true := by
    refine hasB_true (j := j) hj ?_
    have e : s.get! j = s.data.toList[j] := by
      show s.data[j]! = _
      rw [getElem!_pos s.data j hj]
      simp
    rw [e, he]
    rfl
  rw [h] at this
  cases this

theorem back_true {p0 : ByteArray} {p1 : List ByteArray} {p2 : List Int} (hd : Dg p2) (h : p0.size ≤ 140737488351232 ∧ (p1.length ≤ 140737488351232 ∧ ∀ y ∈ p1, y.size ≤ 140737488351232) ∧ p2.length ≤ 140737488351232) : FwWireBack p0 p1 p2 = true := by
  unfold FwWireBack
  rw [fit_true]
  show sel false _ _ = _
  rw [sel_false]
  cases hs : Nat.blt (fstB (FwWireBacks0 p1) p1.length) p1.length
  · rw [sel_false]
    cases ht : decide (itr (FwWireBackl0 p1) p1.length ((p0.size + p2.length : Nat) : Int) > 2000)
    · rw [sel_false]
      cases hn : decide (((p1.length : Nat) : Int) > 100)
      · rw [sel_false]
        have ht' := of_decide_eq_false ht
        have hn' := of_decide_eq_false hn
        obtain ⟨a1, a2, a3, a4⟩ := back_small h (by omega) (by omega)
        have hS := fst_all hs
        have names : ∀ y ∈ p1, y.size ≠ 0 ∧ 44 ∉ y.data.toList := by
          intro y hy
          obtain ⟨j, hj, rfl⟩ := List.mem_iff_getElem.1 hy
          have := hS j hj
          unfold FwWireBacks0 at this
          have e : p1.getD j ⟨#[]⟩ = p1[j] := by rw [List.getD_eq_getElem?_getD, List.getElem?_eq_getElem hj]; rfl
          rw [e] at this
          cases hq : strEq p1[j] (⟨#[]⟩ : ByteArray) with
          | true => rw [hq, sel_true] at this; cases this
          | false =>
            rw [hq, sel_false] at this
            refine ⟨by have := strEq_nz' hq; omega, ?_⟩
            cases hb : hasB 44 p1[j] with
            | true => rw [hb, sel_true] at this; cases this
            | false => exact hasB_not hb
        have hst : fstB (FwWireBacks1 p2) p2.length = lz p2 ∧ Nat.blt (lz p2) p2.length = decide (lz p2 < p2.length) := stop_lz fun k => by
          unfold FwWireBacks1
          cases (p2.getD k 0 == 0) <;> rfl
        have hle := lz_le p2
        -- what is written
        have w0 : FwwTextn p0 = be4 p0.size ++ bytesI p0 := textn_writes p0 (by omega)
        have l0 : (FwwTextn p0).length = 4 + p0.size := by rw [w0, List.length_append, bytesI_length]; rfl
        have w1 : FwwNames (4 + p0.size) (FwwTextn p0) p1 = (be4 p0.size ++ bytesI p0) ++ (be4 (joinB p1 (⟨#[44]⟩ : ByteArray)).size ++ bytesI (joinB p1 (⟨#[44]⟩ : ByteArray))) := by
          rw [names_writes _ _ _ (by omega), w0, List.append_assoc]
        have l1 : FwwNamesn0 (4 + p0.size) (FwwTextn p0) p1 = (FwwNames (4 + p0.size) (FwwTextn p0) p1).length := by
          rw [w1, List.length_append, List.length_append, List.length_append, bytesI_length, bytesI_length]
          unfold FwwNamesn0
          show 4 + p0.size + 4 + _ = 4 + p0.size + (4 + _)
          omega
        have w2 : FwwIntz (FwwNamesn0 (4 + p0.size) (FwwTextn p0) p1) (FwwNames (4 + p0.size) (FwwTextn p0) p1) p2 = be4 p0.size ++ bytesI p0 ++ ((be4 (joinB p1 (⟨#[44]⟩ : ByteArray)).size ++ bytesI (joinB p1 (⟨#[44]⟩ : ByteArray))) ++ (enc p2 ++ [])) := by
          rw [l1, intoz_writes _ _ (by omega), w1, List.append_nil, List.append_assoc, List.append_assoc]
        rw [w2]
        -- how it is read
        have hb0 := bytesI_length p0
        have hbj := bytesI_length (joinB p1 (⟨#[44]⟩ : ByteArray))
        have e0 := text_back (bytesI p0) ((be4 (joinB p1 (⟨#[44]⟩ : ByteArray)).size ++ bytesI (joinB p1 (⟨#[44]⟩ : ByteArray))) ++ (enc p2 ++ [])) (by omega)
        rw [hb0] at e0
        have e1 := names_back (l := p1) (enc p2 ++ []) (fun y hy => (names y hy).1) (fun y hy => (names y hy).2) (by omega)
        have e2 := int_back p2 [] (by omega)
        have henc : Dg (enc p2) := dg_app (dg_be4 _) (dg_pad (dg_drop _ hd))
        have hencl : (enc p2).length ≤ 10000 := by
          have := pad_le (trim p2)
          have := trim_le p2
          unfold enc
          rw [List.length_append]
          show 4 + _ ≤ _
          omega
        have k2 : RdOk (some (enc p2 ++ [])) := fun s hs => by cases hs; exact ⟨dg_app henc (fun x hx => by cases hx), by rw [List.append_nil]; omega⟩
        have k1 : RdOk (some ((be4 (joinB p1 (⟨#[44]⟩ : ByteArray)).size ++ bytesI (joinB p1 (⟨#[44]⟩ : ByteArray))) ++ (enc p2 ++ []))) := fun s hs => by
          cases hs
          refine ⟨dg_app (dg_app (dg_be4 _) (dg_bytesI _)) (k2 _ rfl).1, ?_⟩
          rw [List.length_append, List.length_append, hbj, List.append_nil]
          show 4 + _ + _ ≤ _
          omega
        have k0 : RdOk (some (be4 p0.size ++ bytesI p0 ++ ((be4 (joinB p1 (⟨#[44]⟩ : ByteArray)).size ++ bytesI (joinB p1 (⟨#[44]⟩ : ByteArray))) ++ (enc p2 ++ [])))) := fun s hs => by
          cases hs
          refine ⟨dg_app (dg_app (dg_be4 _) (dg_bytesI _)) (k1 _ rfl).1, ?_⟩
          rw [List.length_append, List.length_append, hb0, List.length_append, List.length_append, hbj, List.append_nil]
          show 4 + _ + (4 + _ + _) ≤ _
          omega
        have t := text_at k0
        have n := names_at k1
        have i := int_at k2
        rw [e0.1, e0.2, bytesOf_bytesI] at t
        rw [e1.1, e1.2] at n
        rw [e2.1, e2.2] at i
        have tv := t.1; have t1 := t.2.1; have t2 := t.2.2
        have nv := n.1; have n1 := n.2.1; have n2 := n.2.2
        have iv := i.1; have i1 := i.2.1; have i2 := i.2.2
        simp only [rb, rbad] at tv t1 t2 nv n1 n2 iv i1 i2
        rw [tv, t1, t2, nv, n1, n2, iv, i1, i2, strEq_self, texts_same, hst.1, hst.2, end_at]
        have ev : (p2.drop (lz p2)).take (p2.length - lz p2) = trim p2 := by
          rw [List.take_of_length_le (by rw [List.length_drop]; exact Nat.le_refl _)]; rfl
        have ev' : ¬ lz p2 < p2.length → (p2.drop p2.length).take (p2.length - p2.length) = trim p2 := by
          intro hq
          rw [Nat.sub_self, List.take_zero]
          unfold trim
          rw [show lz p2 = p2.length by omega, List.drop_length]
        by_cases hq : lz p2 < p2.length
        · rw [decide_eq_true hq, sel_true, ev, strEq_self]
          simp only [sel_true]
        · rw [decide_eq_false hq, sel_false, ev' hq, strEq_self]
          simp only [sel_true]
      · rw [sel_true]
    · rw [sel_true]
  · rw [sel_true]

end Go.Vm
