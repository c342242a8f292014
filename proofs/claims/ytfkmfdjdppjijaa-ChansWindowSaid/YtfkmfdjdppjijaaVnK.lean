/- What a deed of the small machine is worth, ninth part: append. -/
import Derived.Test.YtfkmfdjdppjijaaVnJ
set_option linter.unusedVariables false
set_option linter.unusedSimpArgs false
namespace Go.Vm
open Go

section
variable {E : Env} {σ : Sig} {nm : Nat} {M : Mem} {w : World} {A : Deed} {r : Result Next} {P : Program}

theorem Blk.cat_R {a b k : Blk} {xs ys : List Value} (ha : CellsR E σ a xs) (hb : CellsR E σ b ys) (h : a.cat b = some k) : CellsR E σ k (xs ++ ys) ∧ k.len = a.len + b.len := by
  obtain ⟨a1, a2, a3⟩ := ha
  obtain ⟨b1, b2, b3⟩ := hb
  unfold Blk.cat at h
  split at h
  · rename_i k1 n xs1 k2 m ys1
    split at h
    · rename_i hk
      subst hk
      simp only [Option.some.injEq] at h
      subst h
      simp only [Blk.good, Blk.len] at a1 b1 a2 b2 ⊢
      refine ⟨⟨by simp [Blk.good, a1, b1], by simp [Blk.len]; omega, fun j s hs => ?_⟩, trivial⟩
      simp only [Blk.get?, Option.map_eq_some_iff] at hs
      obtain ⟨y, hy, rfl⟩ := hs
      by_cases hj : j < xs1.length
      · rw [List.getElem?_append_left hj] at hy
        obtain ⟨v, hv, hr⟩ := a3 j (.i k1 y) (by simp [Blk.get?, hy])
        exact ⟨v, by rw [List.getElem?_append_left (by omega)]; exact hv, hr⟩
      · rw [List.getElem?_append_right (by omega)] at hy
        obtain ⟨v, hv, hr⟩ := b3 (j - xs1.length) (.i k1 y) (by simp [Blk.get?, hy])
        refine ⟨v, ?_, hr⟩
        rw [List.getElem?_append_right (by omega)]
        have : j - xs.length = j - xs1.length := by omega
        rw [this]; exact hv
    · cases h
  · rename_i l m
    simp only [Option.some.injEq] at h
    subst h
    simp only [Blk.len] at a2 b2 ⊢
    refine ⟨⟨trivial, by simp [Blk.len]; omega, fun j s hs => ?_⟩, by simp⟩
    simp only [Blk.get?] at hs
    by_cases hj : j < l.length
    · rw [List.getElem?_append_left hj] at hs
      obtain ⟨v, hv, hr⟩ := a3 j s hs
      exact ⟨v, by rw [List.getElem?_append_left (by omega)]; exact hv, hr⟩
    · rw [List.getElem?_append_right (by omega)] at hs
      obtain ⟨v, hv, hr⟩ := b3 (j - l.length) s hs
      refine ⟨v, ?_, hr⟩
      rw [List.getElem?_append_right (by omega)]
      have : j - xs.length = j - l.length := by omega
      rw [this]; exact hv
  · rename_i v l m
    split at h
    · rename_i zs hz
      simp only [Option.some.injEq] at h
      subst h
      simp only [Blk.len] at a2 b2 ⊢
      have hzl := VK.unL_len hz
      refine ⟨⟨trivial, by simp [Blk.len]; omega, fun j s hs => ?_⟩, by simp [hzl]⟩
      simp only [Blk.get?, Option.map_eq_some_iff] at hs
      obtain ⟨x, hx, rfl⟩ := hs
      by_cases hj : j < l.length
      · rw [List.getElem?_append_left hj] at hx
        obtain ⟨u, hu, hr⟩ := a3 j _ (by simp only [Blk.get?, hx, Option.map_some]; rfl)
        exact ⟨u, by rw [List.getElem?_append_left (by omega)]; exact hu, hr⟩
      · rw [List.getElem?_append_right (by omega)] at hx
        obtain ⟨s, hs, hun⟩ := VK.unL_get hz hx
        obtain ⟨u, hu, hr⟩ := b3 (j - l.length) s (by simpa [Blk.get?] using hs)
        refine ⟨u, ?_, VK.un_R hun hr⟩
        rw [List.getElem?_append_right (by omega)]
        have : j - xs.length = j - l.length := by omega
        rw [this]; exact hu
    · cases h
  all_goals first
    | cases h; done
    | skip
  all_goals
    rename_i l m
    simp only [Option.some.injEq] at h
    subst h
    simp only [Blk.len] at a2 b2 ⊢
    refine ⟨⟨trivial, by simp [Blk.len]; omega, fun j s hs => ?_⟩, by simp⟩
    simp only [Blk.get?, Option.map_eq_some_iff] at hs
    obtain ⟨x, hx, rfl⟩ := hs
    by_cases hj : j < l.length
    · rw [List.getElem?_append_left hj] at hx
      obtain ⟨u, hu, hr⟩ := a3 j _ (by simp only [Blk.get?, hx, Option.map_some]; rfl)
      exact ⟨u, by rw [List.getElem?_append_left (by omega)]; exact hu, hr⟩
    · rw [List.getElem?_append_right (by omega)] at hx
      obtain ⟨u, hu, hr⟩ := b3 (j - l.length) _ (by simp only [Blk.get?, hx, Option.map_some]; rfl)
      refine ⟨u, ?_, hr⟩
      rw [List.getElem?_append_right (by omega)]
      have : j - xs.length = j - l.length := by omega
      rw [this]; exact hu

theorem Blk.from_get {k : Blk} (hk : k.good) (o : Nat) : (k.from o).good ∧ (k.from o).len = k.len - o ∧ ∀ j, (k.from o).get? j = k.get? (o + j) := by
  cases k with
  | ints kd n xs =>
    simp only [Blk.good] at hk
    unfold Blk.from
    simp only
    cases hb : Nat.beq o 0
    · simp only [cond_false]
      refine ⟨by simp [Blk.good, hk], rfl, fun j => by simp [Blk.get?]⟩
    · simp only [cond_true]
      have := Nat.eq_of_beq_eq_true hb
      subst this
      exact ⟨hk, by simp [Blk.len], fun j => by simp⟩
  | cells l => exact ⟨trivial, by simp [Blk.from, Blk.len], fun j => by simp [Blk.from, Blk.get?]⟩
  | vec v l =>
    unfold Blk.from
    simp only
    cases hb : Nat.beq o 0
    · simp only [cond_false]
      exact ⟨trivial, by simp [Blk.len], fun j => by simp [Blk.get?]⟩
    · simp only [cond_true]
      have := Nat.eq_of_beq_eq_true hb
      subst this
      exact ⟨trivial, by simp [Blk.len], fun j => by simp⟩

/-- The cells of a part of a block, as values, wherever the heap is the same. -/
theorem BlkR.first {k : Blk} {L : Loc} (h : BlkR E σ w k (.at L)) {o n size : Nat} (hs : (k.sub o (n * size)).1) :
    ∃ cs : List Value, cs.length = n * size ∧ CellsR E σ (k.sub o (n * size)).2 cs ∧ (∀ v ∈ cs, v.oneCell' = true) ∧
      ∀ (w' : World) (P : Program) (len cap : Nat), w'.heap = w.heap → (Builtin.firstCells size n (.slice (some ⟨L.g, L.β + o, none⟩) len cap)).run P w' = .ok cs.toArray w' := by
  obtain ⟨cs, h1, h2, h3⟩ := h.list hs
  refine ⟨cs, h1, h3, ?_, fun w' P len cap hw => ?_⟩
  · intro v hv
    obtain ⟨j, hj⟩ := List.getElem?_of_mem hv
    obtain ⟨g1, g2, g3⟩ := h3
    have hlt : j < (k.sub o (n * size)).2.len := by
      have := (List.getElem?_eq_some_iff.1 hj).1
      omega
    obtain ⟨s, hs'⟩ := Blk.get_some g1 hlt
    obtain ⟨v', hv', hr⟩ := g3 j s hs'
    rw [hj] at hv'
    injection hv' with hv'
    subst hv'
    exact (sc_one hr).2
  · have hc : ∀ j v, cs[j]? = some v → w'.cell? ((⟨L.g, L.β + o, none⟩ : Addr).add j) = some v := by
      intro j v hj
      rw [← h2 j v hj]
      simp only [World.cell?, hw]
    have := run_loadCells_list (P := P) w' ⟨L.g, L.β + o, none⟩ cs hc
    rw [h1] at this
    simp only [Builtin.firstCells]
    exact this

/-- What an append takes. -/
theorem src_R {x : AV} {X : Value} {rs : List Nat} {f : List Blk → Option (Prop × Nat × Blk)} {bs : List Blk} {C : Prop} {m size : Nat} {k : Blk} (hx : AVR E σ x X) (hM : MemR E σ M w) (h : srcOf x = some (rs, f)) (hbs : lookAll M rs = some bs)
    (hf : f bs = some (C, m, k)) (hC : C) (hlen : k.len = m * size) (h0 : 0 < size) :
    (∀ w', (Builtin.lenOf X).run P w' = .ok m w') ∧ ∃ cs : List Value, cs.length = m * size ∧ CellsR E σ k cs ∧ (∀ v ∈ cs, v.oneCell' = true) ∧ ∀ w', w'.heap = w.heap → (Builtin.firstCells size m X).run P w' = .ok cs.toArray w' := by
  unfold srcOf at h
  split at h
  · rename_i s
    simp only [Option.some.injEq, Prod.mk.injEq] at h
    obtain ⟨rfl, rfl⟩ := h
    simp only [Option.some.injEq, Prod.mk.injEq] at hf
    obtain ⟨rfl, rfl, rfl⟩ := hf
    simp only [AVR, ScR] at hx; subst hx
    simp only [Blk.len] at hlen
    refine ⟨fun w' => by simp [Builtin.lenOf], intVals .u8 (bytesI s), ?_, cellsR_ints (bytesI_length s), all_one_ints, fun w' _ => ?_⟩
    · simp only [intVals, List.length_map, bytesI_length]; exact hlen
    · simp only [Builtin.firstCells, Sem.run_pure]
      congr 1
      have : s.extract 0 s.size = s := by
        apply ByteArray.ext
        simp
      rw [this]
      apply Array.toList_inj.1
      simp [intVals, bytesI]
  · rename_i kd xs
    simp only [Option.some.injEq, Prod.mk.injEq] at h
    obtain ⟨rfl, rfl⟩ := h
    simp only [Option.some.injEq, Prod.mk.injEq] at hf
    obtain ⟨rfl, rfl, rfl⟩ := hf
    obtain ⟨B, c, rfl, hc, hr⟩ := hx
    simp only [Blk.len] at hlen
    refine ⟨fun w' => by simp [Builtin.lenOf], intVals kd xs, by simp only [intVals, List.length_map]; exact hlen, cellsR_ints rfl, all_one_ints, fun w' hw => ?_⟩
    cases hxs : xs with
    | nil =>
      cases B with
      | none => simp [Builtin.firstCells, intVals]
      | some ad => simp [Builtin.firstCells, intVals, loadCells, loadCellsFrom]
    | cons y ys =>
      rw [← hxs]
      obtain ⟨ad, rfl, ho, hrd⟩ := hr (by rw [hxs]; simp)
      have := run_loadCells_list (P := P) w' ad (intVals kd xs) (fun j v hv => by
        simp only [intVals, List.getElem?_map, Option.map_eq_some_iff] at hv
        obtain ⟨z, hz, rfl⟩ := hv
        have hlt := (List.getElem?_eq_some_iff.1 hz).1
        have h2 := hM.oldCell (a := ad.add j) (by rw [add_block]; exact ho)
        have h3 : w'.cell? (ad.add j) = w.cell? (ad.add j) := by simp only [World.cell?, hw]
        rw [h3, h2, hrd j hlt]
        simp [hz])
      simp only [intVals, List.length_map] at this
      simp only [Builtin.firstCells, ← hlen]
      exact this
  · rename_i b off len es cap
    simp only [Option.some.injEq, Prod.mk.injEq] at h
    obtain ⟨rfl, rfl⟩ := h
    simp only [lookAll] at hbs
    split at hbs
    · cases hbs
    · rename_i k0 hk0
      simp only [Option.some.injEq] at hbs
      subst hbs
      simp only [Option.some.injEq, Prod.mk.injEq] at hf
      obtain ⟨rfl, rfl, rfl⟩ := hf
      have hB := hM.blk b k0 hk0
      have hgood : k0.good := by
        revert hB
        cases σ b with
        | unset => exact fun h => h.elim
        | nil => exact fun h => h.2
        | «at» L => exact fun h => h.1
      have hes : len * es = len * size := by
        have := (Blk.sub_get hgood hC).2.1
        omega
      rcases hx with ⟨rfl, _, B, rfl⟩ | ⟨L, c, hL, rfl, _⟩
      · refine ⟨fun w' => by simp [Builtin.lenOf], [], by simp, ?_, by simp, fun w' hw => ?_⟩
        · obtain ⟨s1, s2, s3, s4⟩ := Blk.sub_get hgood hC
          refine ⟨s1, by rw [s2]; simp, fun j s hs => ?_⟩
          have := Blk.get?_lt s1 hs
          omega
        · cases B with
          | none => simp [Builtin.firstCells]
          | some ad => simp [Builtin.firstCells, loadCells, loadCellsFrom]
      · rw [hL] at hB
        rw [hes] at hC hlen ⊢
        obtain ⟨cs, h1, h2, h3, h4⟩ := hB.first hC
        exact ⟨fun w' => by simp [Builtin.lenOf], cs, h1, h2, h3, fun w' hw => h4 w' P len c hw⟩
  · cases h

/-- What an append is handed, as the model looks at it. -/
def SrcOk (P : Program) (u : TypeId) (i : TypeInfo) (z : Value) (m : Nat) (X : Value) (cs : List Value) (w : World) : Prop :=
  ((∃ d, P.underlying u = some d ∧ (d = .string ∨ ∃ e', d = .slice e')) ∧ (∀ w', (Builtin.lenOf X).run P w' = .ok m w') ∧ ∀ w', w'.heap = w.heap → (Builtin.firstCells i.size m X).run P w' = .ok cs.toArray w') ∨
  ((∃ k, P.underlying u = some (.int k)) ∧ X = .int .i64 (m : Int) ∧ m ≤ 140737488355328 ∧ (i.bytes : Int) * (m : Int) ≤ 281474976710656 ∧ cs.toArray = Builtin.zeroCells z.cells m ∧ z.cells.size = i.size)

theorem run_grow {t u ty e : TypeId} {i : TypeInfo} {z : Value} (ht : P.underlying t = some (.slice e)) (hi : P.info? e = some i) (hz : i.zero = some z)
    {base : Option Addr} {sLen sCap n : Nat} {X : Value} {olds news : List Value} (hS : SrcOk P u i z n X news w)
    (hfo : (Builtin.firstCells i.size sLen (.slice base sLen sCap)).run P w.drew = .ok olds.toArray w.drew)
    (hg : sCap < sLen + n) (h63 : sLen + n ≤ 140737488355328) (hb : (sLen + n) * i.bytes ≤ 140737488355328) :
    (Builtin.append_ #[t, u] ty #[.slice base sLen sCap, X]).run P w =
      .ok (.slice (some ⟨w.heap.size, 0, none⟩) (sLen + n) (grownCap w (sLen + n) sCap e))
        (w.drew.alloc (.cells ((olds ++ news).toArray ++ Builtin.zeroCells z.cells (grownCap w (sLen + n) sCap e - (sLen + n))) e)) := by
  have hn : ¬ (sLen + n ≤ sCap) := by omega
  have h63' : ¬ (9223372036854775807 < ((sLen : Int) + (n : Int))) := by omega
  have hfit := growslice_fits (bytes := i.bytes) hg hb
  have h48' : ¬ (281474976710656 < Builtin.nextslicecap (sLen + n) sCap * i.bytes) := by omega
  rcases hS with ⟨⟨d, hu, hd⟩, hl, hf0⟩ | ⟨⟨k, hu⟩, rfl, q1, q2, q3, q4⟩
  · have hf := hf0 w.drew rfl
    rcases hd with rfl | ⟨e', rfl⟩
    all_goals
      simp [Builtin.append_, run_und ht, run_und hu, sizeOf, typeInfo, zeroValue, hi, hz, hl, hn, h63', h48', Question.forced, hf, hfo, newRow, grownCap]
      rw [← List.append_toArray, Array.append_assoc]
  · have w1 : IntKind.wrap .i64 (n : Int) = (n : Int) := by rw [IntKind.wrap_i64]; omega
    have q2' : ¬ (281474976710656 < (n : Int) * (i.bytes : Int)) := by rw [Int.mul_comm]; omega
    have q5 : ¬ ((n : Int) < 0) := by omega
    have q6 : ¬ (9223372036854775807 < ((sLen : Int) + max (n : Int) 0)) := by omega
    by_cases h0 : n * i.size = 0
    · have h1 : news.toArray = #[] := by
        rw [q3]
        rcases Nat.mul_eq_zero.1 h0 with h2 | h2
        · rw [h2]; simp [Builtin.zeroCells]
        · rw [← q4] at h2
          apply Array.eq_empty_of_size_eq_zero
          rw [size_zeroCells, h2, Nat.mul_zero]
      have h2 : news = [] := by simpa using h1
      subst h2
      simp [Builtin.append_, run_und ht, run_und hu, sizeOf, typeInfo, zeroValue, hi, hz, hn, h63', h48', Question.forced, hfo, newRow, grownCap, w1, q2', q5, q6, h0, asInt, asIntOf]
    · simp [Builtin.append_, run_und ht, run_und hu, sizeOf, typeInfo, zeroValue, hi, hz, hn, h63', h48', Question.forced, hfo, newRow, grownCap, w1, q2', q5, q6, h0, asInt, asIntOf]
      rw [← q3, ← List.append_toArray, Array.append_assoc]

theorem run_room {t u ty e : TypeId} {i : TypeInfo} {z : Value} (ht : P.underlying t = some (.slice e)) (hi : P.info? e = some i) (hz : i.zero = some z)
    {base : Addr} {sLen sCap n : Nat} {X : Value} {news : List Value} {w' : World} (hS : SrcOk P u i z n X news w)
    (hg : sLen + n ≤ sCap) (hs : (storeCells (base.add (sLen * i.size)) news).run P w = .ok () w') :
    (Builtin.append_ #[t, u] ty #[.slice (some base) sLen sCap, X]).run P w = .ok (.slice (some base) (sLen + n) sCap) w' := by
  rcases hS with ⟨⟨d, hu, hd⟩, hl, hf0⟩ | ⟨⟨k, hu⟩, rfl, q1, q2, q3, q4⟩
  · have hf := hf0 w rfl
    rcases hd with rfl | ⟨e', rfl⟩ <;> simp [Builtin.append_, run_und ht, run_und hu, sizeOf, typeInfo, hi, hl, hg, hf, hs]
  · have w1 : IntKind.wrap .i64 (n : Int) = (n : Int) := by rw [IntKind.wrap_i64]; omega
    have q2' : ¬ (281474976710656 < (n : Int) * (i.bytes : Int)) := by rw [Int.mul_comm]; omega
    have q5 : ¬ ((n : Int) < 0) := by omega
    by_cases h0 : n * i.size = 0
    · have h1 : news.toArray = #[] := by
        rw [q3]
        rcases Nat.mul_eq_zero.1 h0 with h2 | h2
        · rw [h2]; simp [Builtin.zeroCells]
        · rw [← q4] at h2
          apply Array.eq_empty_of_size_eq_zero
          rw [size_zeroCells, h2, Nat.mul_zero]
      have h2 : news = [] := by simpa using h1
      subst h2
      simp [Builtin.append_, run_und ht, run_und hu, sizeOf, typeInfo, hi, hg, w1, q2', q5, h0, asInt, asIntOf, hs]
    · simp [Builtin.append_, run_und ht, run_und hu, sizeOf, typeInfo, zeroValue, hi, hz, hg, w1, q2', q5, h0, asInt, asIntOf, hs]
      rw [← q3]
      simp [hs]

theorem run_room0 {t u ty e : TypeId} {i : TypeInfo} {z : Value} (ht : P.underlying t = some (.slice e)) (hi : P.info? e = some i)
    {base : Option Addr} {X : Value} (hS : SrcOk P u i z 0 X [] w) :
    (Builtin.append_ #[t, u] ty #[.slice base 0 0, X]).run P w = .ok (.slice base 0 0) w := by
  rcases hS with ⟨⟨d, hu, hd⟩, hl, hf0⟩ | ⟨⟨k, hu⟩, rfl, q1, q2, q3, q4⟩
  · have hf : (Builtin.firstCells i.size 0 X).run P w = .ok #[] w := hf0 w rfl
    rcases hd with rfl | ⟨e', rfl⟩ <;> cases base <;> simp [Builtin.append_, run_und ht, run_und hu, sizeOf, typeInfo, hi, hl, hf, storeCells]
  · have w1 : IntKind.wrap .i64 (0 : Int) = 0 := by rw [IntKind.wrap_i64]; omega
    cases base <;> simp [Builtin.append_, run_und ht, run_und hu, sizeOf, typeInfo, hi, w1, asInt, asIntOf, storeCells]

theorem zeroCells_one (v : Value) (n : Nat) : Builtin.zeroCells #[v] n = (List.replicate n v).toArray := by
  apply Array.ext
  · simp [size_zeroCells]
  · intro j h1 h2
    simp [Builtin.zeroCells, Nat.mod_one]

/-- What an append takes, zeros too. -/
theorem src2_R {e u : TypeId} {i : TypeInfo} {z : Value} {x : AV} {X : Value} {rs : List Nat} {f : List Blk → Option (Prop × Nat × Blk)} {bs : List Blk} {C : Prop} {m : Nat} {k : Blk} (hx : AVR E σ x X) (hM : MemR E σ M w) (hi : P.info? e = some i) (hz : i.zero = some z) (h : srcOf2 P e u x = some (rs, f)) (hbs : lookAll M rs = some bs)
    (hf : f bs = some (C, m, k)) (hC : C) (hlen : k.len = m * i.size) (h0 : 0 < i.size) :
    ∃ cs : List Value, cs.length = m * i.size ∧ CellsR E σ k cs ∧ (∀ v ∈ cs, v.oneCell' = true) ∧ SrcOk P u i z m X cs w ∧ SrcOk P u i z m X cs w.drew := by
  unfold srcOf2 at h
  split at h
  · rename_i hu
    obtain ⟨s1, cs, s2, s3, s4, s5⟩ := src_R (P := P) hx hM h hbs hf hC hlen h0
    exact ⟨cs, s2, s3, s4, .inl ⟨⟨_, hu, .inl rfl⟩, s1, s5⟩, .inl ⟨⟨_, hu, .inl rfl⟩, s1, fun w' hw => s5 w' hw⟩⟩
  · rename_i e' hu
    obtain ⟨s1, cs, s2, s3, s4, s5⟩ := src_R (P := P) hx hM h hbs hf hC hlen h0
    exact ⟨cs, s2, s3, s4, .inl ⟨⟨_, hu, .inr ⟨_, rfl⟩⟩, s1, s5⟩, .inl ⟨⟨_, hu, .inr ⟨_, rfl⟩⟩, s1, fun w' hw => s5 w' hw⟩⟩
  · rename_i ku hu
    unfold zerosOf at h
    rw [hi] at h
    split at h
    · rename_i n i' hi'
      injection hi' with hi'
      subst hi'
      rw [hz] at h
      split at h
      · rename_i kz v hz' hs1
        injection hz' with hz'
        subst hz'
        simp only [Option.some.injEq, Prod.mk.injEq] at h
        obtain ⟨rfl, rfl⟩ := h
        simp only [Option.some.injEq, Prod.mk.injEq] at hf
        obtain ⟨rfl, rfl, rfl⟩ := hf
        simp only [AVR, ScR] at hx; subst hx
        obtain ⟨⟨c1, c2⟩, c3⟩ := hC
        have en : ((n.toNat : Nat) : Int) = n := Int.toNat_of_nonneg c1
        have hok : ∀ w, SrcOk P u i (.int kz v) n.toNat (.int .i64 n) (intVals kz (List.replicate n.toNat v)) w := fun w => by
          refine .inr ⟨⟨_, hu⟩, by rw [en], by omega, by rw [en]; exact c3, ?_, ?_⟩
          · show _ = Builtin.zeroCells #[.int kz v] n.toNat
            rw [zeroCells_one, intVals, List.map_replicate]
          · rw [hs1]; rfl
        exact ⟨_, by rw [intVals, List.length_map, List.length_replicate, hs1, Nat.mul_one], cellsR_ints (by simp), all_one_ints, hok w, hok _⟩
      · cases h
    · cases h
  · cases h

/-- A name for nothing. -/
theorem MemR.nil {k : Blk} (hM : MemR E σ M w) (hn : σ nm = .unset) (hk : k.good) (hlen : k.len = 0) : MemR E (upd σ nm .nil) (put1 nm k M) w := by
  have hx := ext_upd (σ := σ) .nil hn
  refine ⟨fun b x hb => ?_, fun b c x y L L' hb hc hL hL' hg => ?_, hM.old, hM.size, hM.olds, hM.os, hM.tape, hM.output⟩
  · rw [look_put1] at hb
    by_cases e : b = nm
    · rw [if_pos e] at hb
      injection hb with hb
      subst hb e
      rw [upd_same]
      exact ⟨hlen, hk⟩
    · rw [if_neg e] at hb
      rw [upd_other _ _ e]
      exact (hM.blk b x hb).ext hx
  · have ne : ∀ m L1, upd σ nm .nil m = .at L1 → m ≠ nm := by
      intro m L1 h e
      rw [e, upd_same] at h
      cases h
    have e1 := ne b L hL
    have e2 := ne c L' hL'
    rw [look_put1, if_neg e1] at hb
    rw [look_put1, if_neg e2] at hc
    rw [upd_other _ _ e1] at hL
    rw [upd_other _ _ e2] at hL'
    exact hM.inj b c x y L L' hb hc hL hL' hg

/-- A block under a new name, its cells turned. -/
theorem MemR.move {w' : World} {b : Nat} {k k' : Blk} {L : Loc} {β' : Nat} {arr arr' : Array Value} {elem lo hi : Nat} (hM : MemR E σ M w) (hn : σ nm = .unset) (hb : look b M = some k) (hL : σ b = .at L)
    (harr : w.heap[L.g]? = some (.cells arr elem (lo, hi))) (harr' : w'.heap[L.g]? = some (.cells arr' elem (lo, hi))) (hsz : arr'.size = arr.size)
    (hother : ∀ g, g ≠ L.g → w'.heap[g]? = w.heap[g]?) (hsize : w'.heap.size = w.heap.size) (hos : w'.os = w.os) (htape : w'.tape = w.tape) (hout : w'.output = w.output)
    (hk : k'.good) (hlen : β' + k'.len ≤ L.sz) (hc : ∀ j s, k'.get? j = some s → ∃ v, arr'[β' + j]? = some v ∧ ScR E σ s v) :
    MemR E (upd σ nm (.at ⟨L.g, β', L.sz⟩)) (put1 nm k' (drop1 b M)) w' := by
  have hx := ext_upd (σ := σ) (.at ⟨L.g, β', L.sz⟩) hn
  have hB := hM.blk b k hb
  rw [hL] at hB
  obtain ⟨_, a1, e1, l1, h1, hh, hs, hle, hno, hfz, _⟩ := hB
  have hsame : a1 = arr ∧ e1 = elem ∧ l1 = lo ∧ h1 = hi := by
    have := hh.symm.trans harr
    simp only [Option.some.injEq, Obj.cells.injEq, Prod.mk.injEq] at this
    exact ⟨this.1, this.2.1, this.2.2.1, this.2.2.2⟩
  obtain ⟨rfl, rfl, rfl, rfl⟩ := hsame
  have get : ∀ m z, m ≠ nm → look m (put1 nm k' (drop1 b M)) = some z → look m M = some z ∧ m ≠ b := by
    intro m z hm h
    rw [look_put1, if_neg hm, look_drop1] at h
    split at h
    · cases h
    · exact ⟨h, by assumption⟩
  refine ⟨fun c x hcx => ?_, fun c d x y L1 L2 hc1 hd hL1 hL2 hg => ?_, fun g hg => ?_, by rw [hsize]; exact hM.size, hM.olds, by rw [hos, hM.os], by rw [htape, hM.tape], by rw [hout, hM.output]⟩
  · by_cases e : c = nm
    · rw [look_put1, if_pos e] at hcx
      injection hcx with hcx
      subst hcx e
      rw [upd_same]
      exact ⟨hk, arr', _, _, _, harr', by simp only; omega, hlen, hno, hfz, fun j s hs => let ⟨v, h1, h2⟩ := hc j s hs; ⟨v, h1, h2.ext hx⟩⟩
    · obtain ⟨hcM, hcb⟩ := get c x e hcx
      rw [upd_other _ _ e]
      refine BlkR.same ?_ ((hM.blk c x hcM).ext hx)
      intro L' hL'
      refine hother _ fun hg => hcb ?_
      exact hM.inj c b x k L' L hcM hb hL' hL hg
  · by_cases e : c = nm <;> by_cases e' : d = nm
    · omega
    · exfalso
      obtain ⟨hdM, hdb⟩ := get d y e' hd
      rw [e, upd_same] at hL1
      rw [upd_other _ _ e'] at hL2
      injection hL1 with hL1
      subst hL1
      exact hdb (hM.inj d b y k L2 L hdM hb hL2 hL hg.symm)
    · exfalso
      obtain ⟨hcM, hcb⟩ := get c x e hc1
      rw [e', upd_same] at hL2
      rw [upd_other _ _ e] at hL1
      injection hL2 with hL2
      subst hL2
      exact hcb (hM.inj c b x k L1 L hcM hb hL1 hL hg)
    · obtain ⟨hdM, _⟩ := get d y e' hd
      obtain ⟨hcM, _⟩ := get c x e hc1
      rw [upd_other _ _ e] at hL1
      rw [upd_other _ _ e'] at hL2
      exact hM.inj c d x y L1 L2 hcM hdM hL1 hL2 hg
  · rw [hother g (fun e => hno (e ▸ hg))]
    exact hM.old g hg

/-- A row that an append has made. -/
theorem MemR.grown {k : Blk} {cs : List Value} {e n c : Nat} {z : Array Value} (hM : MemR E σ M w) (hn : σ nm = .unset) (hk : CellsR E σ k cs) :
    MemR E (upd σ nm (.at ⟨w.heap.size, 0, (cs.toArray ++ Builtin.zeroCells z n).size⟩)) (put1 nm k M) (w.drew.alloc (.cells (cs.toArray ++ Builtin.zeroCells z n) e)) := by
  refine hM.cells hn (l := cs) (elem := e) (lo := 0) (hi := 0) rfl rfl rfl rfl ⟨fun j hj => by omega, Nat.le_refl _⟩ hk (fun j v hv => ?_) (by simp)
  have := (List.getElem?_eq_some_iff.1 hv).1
  rw [Array.getElem?_append_left (by simpa using this)]
  simpa using hv

theorem from_of_sub {k : Blk} {cs : List Value} {o s : Nat} (hk : k.good) (hC : (k.sub o s).1) (hs : o + s = k.len) (h : CellsR E σ (k.sub o s).2 cs) : CellsR E σ (k.from o) cs := by
  obtain ⟨h1, h2, h3⟩ := h
  obtain ⟨s1, s2, s3, s4⟩ := Blk.sub_get hk hC
  obtain ⟨f1, f2, f3⟩ := Blk.from_get hk o
  refine ⟨f1, by omega, fun j sc hsc => ?_⟩
  have hj := Blk.get?_lt f1 hsc
  rw [f3] at hsc
  rw [← s4 j (by omega)] at hsc
  exact h3 j sc hsc

theorem sub_cond {k : Blk} {o s : Nat} (h : o + s ≤ k.len) : (k.sub o s).1 := by
  cases k with
  | ints kd n xs =>
    unfold Blk.sub
    simp only
    cases hb : (Nat.beq s n && Nat.beq o 0)
    · simpa [Blk.len] using h
    · trivial
  | cells l => simpa [Blk.sub, Blk.len] using h
  | vec v l =>
    unfold Blk.sub
    simp only
    cases hb : Nat.beq o 0
    · simpa [Blk.len] using h
    · simp only [cond_true, Blk.len] at h ⊢
      omega

theorem MemR.good (hM : MemR E σ M w) {b : Nat} {k : Blk} (h : look b M = some k) : k.good := by
  have hB := hM.blk b k h
  revert hB
  cases σ b with
  | unset => exact fun h => h.elim
  | nil => exact fun h => h.2
  | «at» L => exact fun h => h.1

theorem grown_loc {B c n m size : Nat} {cs : List Value} {z : Array Value} (hcs : cs.length = n * size) (hz : z.size = size) (hc : n ≤ c) : 0 + 0 + c * size = (cs.toArray ++ Builtin.zeroCells z (c - n)).size := by
  simp only [Array.size_append, List.size_toArray, size_zeroCells, hz, hcs, ← Nat.add_mul]
  rw [show n + (c - n) = c by omega]
  omega

theorem fits_append {t u ty : TypeId} {dst src : AV} {D S : Value} (hd : AVR E σ dst D) (hs : AVR E σ src S) (hM : MemR E σ M w) (hn : ∀ m, nm ≤ m → m < nm + 16 → σ m = .unset)
    (hA : appendOp E.P t u dst src nm = some A) : Fits E σ nm M A ((do pure (.value (← Builtin.append_ #[t, u] ty #[D, S])) : Sem Next).run E.P w) := by
  have hnm := hn nm (Nat.le_refl _) (by omega)
  unfold appendOp at hA
  split at hA
  · rename_i e ht
    split at hA
    · rename_i i rs f hi hsrc
      split at hA
      · cases hA
      · rename_i z hz
        split at hA
        · -- onto nil
          simp only [AVR, ScR] at hd; subst hd
          simp only [Option.some.injEq] at hA
          subst hA
          intro C v M' hrun hC
          simp only [Deed.run] at hrun
          cases hbs : lookAll M rs with
          | none => simp [hbs] at hrun
          | some bs =>
            cases hf : f bs with
            | none => simp [hbs, hf] at hrun
            | some x =>
              obtain ⟨C1, m, k⟩ := x
              simp only [hbs, hf, putAll, put0, Option.some.injEq, Prod.mk.injEq] at hrun
              obtain ⟨rfl, rfl, rfl⟩ := hrun
              obtain ⟨⟨⟨c1, c2⟩, c3, c4, c5⟩, c6⟩ := hC
              obtain ⟨cs, s2, s3, s4, hS, hSd⟩ := src2_R hs hM hi hz hsrc hbs hf c1 c6 c3
              by_cases hm : m = 0
              · subst hm
                have hcs : cs = [] := List.eq_nil_of_length_eq_zero (by omega)
                subst hcs
                refine ⟨.slice none 0 0, w, upd σ nm .nil, .inl (run_v (run_room0 ht hi hS)), ext_upd _ hnm, fun m hm => upd_other σ _ (by omega), ?_, ?_⟩
                · exact .inl ⟨rfl, .inl rfl, none, rfl⟩
                · exact hM.nil hnm s3.1 (by omega)
              · have hg := grownCap_ge w (0 + m) 0 e
                refine ⟨_, _, upd σ nm (.at ⟨w.heap.size, 0, (([] ++ cs).toArray ++ Builtin.zeroCells z.cells (grownCap w (0 + m) 0 e - (0 + m))).size⟩), .inl (run_v (run_grow (base := none) (sLen := 0) (sCap := 0) (olds := []) (news := cs) ht hi hz hS (by simp [Builtin.firstCells]) (by omega) (by omega) (by simpa using c4))), ext_upd _ hnm, fun m hm => upd_other σ _ (by omega), ?_, ?_⟩
                · refine .inr ⟨_, grownCap w (0 + m) 0 e, upd_same .., by simp, by omega, ?_, ?_⟩
                  · have := grown_loc (B := 0) (m := 0) (cs := [] ++ cs) (z := z.cells) (c := grownCap w (0 + m) 0 e) (n := 0 + m) (size := i.size) (by simpa using s2) c2 hg
                    simp only; omega
                  · have := grown_loc (B := 0) (m := 0) (cs := [] ++ cs) (z := z.cells) (c := grownCap w (0 + m) 0 e) (n := 0 + m) (size := i.size) (by simpa using s2) c2 hg
                    simp only; omega
                · exact hM.grown (c := 0) hnm (by simpa using s3)
        · -- onto a row of one's own
          rename_i b off len es
          split at hA
          · cases hA
          · rename_i hbrs
            simp only [Option.some.injEq] at hA
            subst hA
            intro C v M' hrun hC
            simp only [Deed.run, lookAll] at hrun
            cases hk0 : look b M with
            | none => simp [hk0] at hrun
            | some k0 =>
              cases hbs : lookAll M rs with
              | none => simp [hk0, hbs] at hrun
              | some bs =>
                cases hf : f bs with
                | none => simp [hk0, hbs, hf] at hrun
                | some x =>
                  obtain ⟨C1, m, k⟩ := x
                  cases hcat : (k0.from off).cat k with
                  | none => simp [hk0, hbs, hf, hcat] at hrun
                  | some k' =>
                    simp only [hk0, hbs, hf, hcat, putAll, put0, Option.some.injEq, Prod.mk.injEq] at hrun
                    obtain ⟨rfl, rfl, rfl⟩ := hrun
                    obtain ⟨⟨⟨⟨c1, c2⟩, c3, c4, c5⟩, c6⟩, rfl, c8⟩ := hC
                    obtain ⟨cs, s2, s3, s4, hS, hSd⟩ := src2_R hs hM hi hz hsrc hbs hf c1 c6 c3
                    have hgood := hM.good hk0
                    have hM' := hM.drop b
                    rcases hd with ⟨rfl, _, B, rfl⟩ | ⟨L, c, hL, rfl, hlc, hfit, hcap⟩
                    · -- empty
                      obtain ⟨f1, f2, f3⟩ := Blk.from_get hgood off
                      have hold : CellsR E σ (k0.from off) [] := ⟨f1, by rw [f2]; simp; omega, fun j s hj => by have := Blk.get?_lt f1 hj; omega⟩
                      obtain ⟨hk', hlen'⟩ := Blk.cat_R hold s3 hcat
                      by_cases hm : m = 0
                      · subst hm
                        have hcs : cs = [] := List.eq_nil_of_length_eq_zero (by omega)
                        subst hcs
                        refine ⟨.slice B 0 0, w, upd σ nm .nil, .inl (run_v (run_room0 ht hi hS)), ext_upd _ hnm, fun m hm => upd_other σ _ (by omega), ?_, ?_⟩
                        · exact .inl ⟨rfl, .inl rfl, B, rfl⟩
                        · exact hM'.nil hnm hk'.1 (by rw [hk'.2.1]; rfl)
                      · have hg := grownCap_ge w (0 + m) 0 e
                        have hfo : (Builtin.firstCells i.size 0 (.slice B 0 0)).run E.P w.drew = .ok ([] : List Value).toArray w.drew := by
                          cases B <;> simp [Builtin.firstCells, loadCells, loadCellsFrom]
                        refine ⟨_, _, upd σ nm (.at ⟨w.heap.size, 0, (([] ++ cs).toArray ++ Builtin.zeroCells z.cells (grownCap w (0 + m) 0 e - (0 + m))).size⟩), .inl (run_v (run_grow (base := B) (sLen := 0) (sCap := 0) (olds := []) (news := cs) ht hi hz hS hfo (by omega) (by omega) (by simpa using c4))), ext_upd _ hnm, fun m hm => upd_other σ _ (by omega), ?_, ?_⟩
                        · have := grown_loc (B := 0) (m := 0) (cs := [] ++ cs) (z := z.cells) (c := grownCap w (0 + m) 0 e) (n := 0 + m) (size := i.size) (by simpa using s2) c2 hg
                          exact .inr ⟨_, grownCap w (0 + m) 0 e, upd_same .., by simp, by omega, by simp only; omega, by simp only; omega⟩
                        · exact hM'.grown (c := 0) hnm hk'
                    · have hB := hM.blk b k0 hk0
                      rw [hL] at hB
                      simp only at hcap
                      have hsub : (k0.sub off (len * i.size)).1 := sub_cond (by omega)
                      obtain ⟨olds, o1, o2, o3, o4⟩ := hB.first hsub
                      have hold := from_of_sub hgood hsub c8 o2
                      obtain ⟨hk', hlen'⟩ := Blk.cat_R hold s3 hcat
                      by_cases hroom : len + m ≤ c
                      · -- there is room
                        have hB' := hB
                        obtain ⟨_, arr, elem, lo, hi', h1, h2, h3, h4, h5, h6⟩ := hB'
                        have e1 : (len + m) * i.size ≤ c * i.size := Nat.mul_le_mul_right _ hroom
                        rw [Nat.add_mul] at e1
                        obtain ⟨w', arr', a1, a2, a3, a4, a5, a6, a7, a8, a9⟩ := run_storeCells_any (P := E.P) L.g (L.β + off + len * i.size) elem lo hi' cs 0 arr w h1 (by omega) s4 (by rw [h2]; exact h5.1)
                        refine ⟨.slice (some ⟨L.g, L.β + off, none⟩) (len + m) c, w', upd σ nm (.at ⟨L.g, L.β + off, L.sz⟩), .inl (run_v (run_room ht hi hz hS hroom (by rw [addr_add]; exact a1))), ext_upd _ hnm, fun m hm => upd_other σ _ (by omega), ?_, ?_⟩
                        · exact .inr ⟨⟨L.g, L.β + off, L.sz⟩, c, upd_same .., by simp, hroom, by simp only; omega, by simp only; omega⟩
                        · refine hM.move hnm hk0 hL h1 a2 a3 a5 a6 a7 a8 a9 hk'.1 (by have := hk'.2.1; simp at this; omega) fun j sc hsc => ?_
                          obtain ⟨v, hv, hr⟩ := hk'.2.2 j sc hsc
                          refine ⟨v, ?_, hr⟩
                          rw [a4]
                          by_cases hj : j < len * i.size
                          · rw [if_neg (by omega)]
                            rw [List.getElem?_append_left (by omega)] at hv
                            have hj0 : off + j < k0.len := by omega
                            obtain ⟨s0, hs0⟩ := Blk.get_some hgood hj0
                            obtain ⟨v0, hv0, _⟩ := h6 (off + j) s0 hs0
                            have hcell := o4 w E.P len c rfl
                            rw [Nat.add_assoc]
                            rw [hv0]
                            -- the old cells are the block's
                            have hloads : ∀ (q : Nat) (x : Value), olds[q]? = some x → arr[L.β + off + q]? = some x := by
                              intro q x hx
                              obtain ⟨cs2, l1, l2, l3⟩ := hB.list hsub
                              have hrun2 := run_loadCells_list (P := E.P) w ⟨L.g, L.β + off, none⟩ cs2 l2
                              rw [l1] at hrun2
                              simp only [Builtin.firstCells] at hcell
                              rw [hrun2] at hcell
                              simp only [Result.ok.injEq, and_true] at hcell
                              have : cs2 = olds := by simpa using hcell
                              rw [← this] at hx
                              have := l2 q x hx
                              rw [addr_add, cell_of_blk h1] at this
                              exact this
                            have := hloads j v hv
                            rw [Nat.add_assoc, hv0] at this
                            exact this
                          · have hjl : j < len * i.size + m * i.size := by
                              have := (List.getElem?_eq_some_iff.1 hv).1
                              simp at this
                              omega
                            rw [if_pos (by omega)]
                            rw [List.getElem?_append_right (by omega)] at hv
                            have : L.β + off + j - (L.β + off + len * i.size + 0) = j - olds.length := by omega
                            rw [this]; exact hv
                      · -- there is none
                        have hg := grownCap_ge w (len + m) c e
                        refine ⟨_, _, upd σ nm (.at ⟨w.heap.size, 0, ((olds ++ cs).toArray ++ Builtin.zeroCells z.cells (grownCap w (len + m) c e - (len + m))).size⟩), .inl (run_v (run_grow (base := some ⟨L.g, L.β + off, none⟩) (sLen := len) (sCap := c) (olds := olds) (news := cs) ht hi hz hS (o4 w.drew E.P len c rfl) (by omega) c5 c4)), ext_upd _ hnm, fun m hm => upd_other σ _ (by omega), ?_, ?_⟩
                        · have := grown_loc (B := 0) (m := 0) (cs := olds ++ cs) (z := z.cells) (c := grownCap w (len + m) c e) (n := len + m) (size := i.size) (by simp [o1, s2, Nat.add_mul]) c2 hg
                          exact .inr ⟨_, grownCap w (len + m) c e, upd_same .., by simp, by omega, by simp only; omega, by simp only; omega⟩
                        · exact hM'.grown (c := 0) hnm hk'
        · -- onto a row that is full
          rename_i b off len es c
          simp only [Option.some.injEq] at hA
          subst hA
          intro C v M' hrun hC
          simp only [Deed.run, lookAll] at hrun
          cases hk0 : look b M with
          | none => simp [hk0] at hrun
          | some k0 =>
            cases hbs : lookAll M rs with
            | none => simp [hk0, hbs] at hrun
            | some bs =>
              cases hf : f bs with
              | none => simp [hk0, hbs, hf] at hrun
              | some x =>
                obtain ⟨C1, m, k⟩ := x
                cases hcat : (k0.sub off (len * es)).2.cat k with
                | none => simp [hk0, hbs, hf, hcat] at hrun
                | some k' =>
                  simp only [hk0, hbs, hf, hcat, putAll, put0, Option.some.injEq, Prod.mk.injEq] at hrun
                  obtain ⟨rfl, rfl, rfl⟩ := hrun
                  obtain ⟨⟨⟨⟨⟨c1, c1'⟩, c2⟩, c3, c4, c5⟩, c6⟩, rfl, rfl, c9⟩ := hC
                  obtain ⟨cs, s2, s3, s4, hS, hSd⟩ := src2_R hs hM hi hz hsrc hbs hf c1 c6 c3
                  have hgood := hM.good hk0
                  have hg := grownCap_ge w (c + m) c e
                  rcases hd with ⟨rfl, _, B, rfl⟩ | ⟨L, c', hL, rfl, hlc, hfit, rfl⟩
                  · have hold : CellsR E σ (k0.sub off (0 * i.size)).2 [] := by
                      obtain ⟨f1, f2, f3, f4⟩ := Blk.sub_get hgood c1'
                      exact ⟨f1, by rw [f2]; simp, fun j s hj => by have := Blk.get?_lt f1 hj; omega⟩
                    obtain ⟨hk', hlen'⟩ := Blk.cat_R hold s3 hcat
                    have hfo : (Builtin.firstCells i.size 0 (.slice B 0 0)).run E.P w.drew = .ok ([] : List Value).toArray w.drew := by
                      cases B <;> simp [Builtin.firstCells, loadCells, loadCellsFrom]
                    refine ⟨_, _, upd σ nm (.at ⟨w.heap.size, 0, (([] ++ cs).toArray ++ Builtin.zeroCells z.cells (grownCap w (0 + m) 0 e - (0 + m))).size⟩), .inl (run_v (run_grow (base := B) (sLen := 0) (sCap := 0) (olds := []) (news := cs) ht hi hz hS hfo (by omega) c5 c4)), ext_upd _ hnm, fun m hm => upd_other σ _ (by omega), ?_, ?_⟩
                    · have := grown_loc (B := 0) (m := 0) (cs := [] ++ cs) (z := z.cells) (c := grownCap w (0 + m) 0 e) (n := 0 + m) (size := i.size) (by simpa using s2) c2 hg
                      exact .inr ⟨_, grownCap w (0 + m) 0 e, upd_same .., by simp, by omega, by simp only; omega, by simp only; omega⟩
                    · exact hM.grown (c := 0) hnm hk'
                  · have hB := hM.blk b k0 hk0
                    rw [hL] at hB
                    obtain ⟨olds, o1, o2, o3, o4⟩ := hB.first c1'
                    obtain ⟨hk', hlen'⟩ := Blk.cat_R o2 s3 hcat
                    refine ⟨_, _, upd σ nm (.at ⟨w.heap.size, 0, ((olds ++ cs).toArray ++ Builtin.zeroCells z.cells (grownCap w (c' + m) c' e - (c' + m))).size⟩), .inl (run_v (run_grow (base := some ⟨L.g, L.β + off, none⟩) (sLen := c') (sCap := c') (olds := olds) (news := cs) ht hi hz hS (o4 w.drew E.P c' c' rfl) (by omega) c5 c4)), ext_upd _ hnm, fun m hm => upd_other σ _ (by omega), ?_, ?_⟩
                    · have := grown_loc (B := 0) (m := 0) (cs := olds ++ cs) (z := z.cells) (c := grownCap w (c' + m) c' e) (n := c' + m) (size := i.size) (by simp [o1, s2, Nat.add_mul]) c2 hg
                      exact .inr ⟨_, grownCap w (c' + m) c' e, upd_same .., by simp, by omega, by simp only; omega, by simp only; omega⟩
                    · exact hM.grown (c := 0) hnm hk'
        · cases hA
    · cases hA
  · cases hA

end
end Go.Vm
