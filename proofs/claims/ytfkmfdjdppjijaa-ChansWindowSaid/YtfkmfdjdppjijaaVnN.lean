/- The small machine runs a region whose order is drawn: what the order of the text gives, every order gives. -/
import Derived.Test.YtfkmfdjdppjijaaVnM
set_option linter.unusedVariables false
set_option linter.unusedSimpArgs false
namespace Go.Vm
open Go

/-- The same to whoever looks. -/
def EqS (s t : St) : Prop := (∀ n, look n s.1 = look n t.1) ∧ ∀ b, look b s.2 = look b t.2

theorem EqS.refl (s : St) : EqS s s := ⟨fun _ => rfl, fun _ => rfl⟩
theorem EqS.symm {s t : St} (h : EqS s t) : EqS t s := ⟨fun n => (h.1 n).symm, fun b => (h.2 b).symm⟩
theorem EqS.trans {s t u : St} (h : EqS s t) (h' : EqS t u) : EqS s u := ⟨fun n => (h.1 n).trans (h'.1 n), fun b => (h.2 b).trans (h'.2 b)⟩

theorem StR.eqS {E : Env} {n : Nat} {σ : Sig} {s t : St} {a : Act} {w : World} (h : StR E n σ s.1 s.2 a w) (he : EqS s t) : StR E n σ t.1 t.2 a w :=
  h.less (fun m v hm => by rw [he.1]; exact hm) (fun b k hb => by rw [he.2]; exact hb)

section
variable {X : Cx} {ops : Array Oper}

/-! ### looks alone -/
theorem evAll_congr {ρ ρ' : Env1} : ∀ {l : List Operand}, (∀ x ∈ l, ρ x = ρ' x) → evAll ρ l = evAll ρ' l
  | [], _ => rfl
  | o :: l, h => by simp only [evAll, h o (by simp), evAll_congr (fun x hx => h x (List.mem_cons_of_mem _ hx))]

theorem evParts_congr {ρ ρ' : Env1} : ∀ {l : List (Nat × Operand)}, (∀ x ∈ l.map (·.2), ρ x = ρ' x) → evParts ρ l = evParts ρ' l
  | [], _ => rfl
  | (i, o) :: l, h => by simp only [evParts, h o (by simp), evParts_congr (fun x hx => h x (by simp only [List.map_cons, List.mem_cons]; exact .inr hx))]

theorem evOpt_congr {ρ ρ' : Env1} {o : Option Operand} (h : ∀ x, o = some x → ρ x = ρ' x) : evOpt ρ o = evOpt ρ' o := by
  cases o with
  | none => rfl
  | some x => simp only [evOpt, h x rfl]

theorem opDeed_congr {P : Program} {ρ ρ' : Env1} {nm : Nat} {o : Oper} (h : ∀ x ∈ o.op.operands.toList, ρ x = ρ' x) : opDeed P ρ nm o = opDeed P ρ' nm o := by
  unfold opDeed
  cases hop : o.op <;> rw [hop] at h <;> simp only [Op.operands, List.mem_cons, List.not_mem_nil, or_false, forall_eq, forall_eq_or_imp, Array.toList_append, List.mem_append] at h ⊢
  all_goals first
    | rfl
    | simp only [h]
    | skip
  case build t parts => rw [evParts_congr (l := parts.toList) (fun x hx => h x (by simpa using hx))]
  case buildSlice t len parts => rw [evParts_congr (l := parts.toList) (fun x hx => h x (by simpa using hx))]
  case slice t x lo hi mx =>
    have h1 : ρ x = ρ' x := h x (by simp)
    have h2 : evOpt ρ lo = evOpt ρ' lo := evOpt_congr fun y hy => h y (by subst hy; simp)
    have h3 : evOpt ρ hi = evOpt ρ' hi := evOpt_congr fun y hy => h y (by subst hy; simp)
    have h4 : evOpt ρ mx = evOpt ρ' mx := evOpt_congr fun y hy => h y (by subst hy; simp)
    rw [h1, h2, h3, h4]
  case call c =>
    have h1 : evAll ρ c.args.toList = evAll ρ' c.args.toList := evAll_congr fun x hx => h x (by simp [Call.operands]; exact .inr (by simpa using hx))
    rw [h1]

theorem callDeed_congr {ρ ρ' : Env1} {nm : Nat} {o : Oper} (h : ∀ x ∈ o.op.operands.toList, ρ x = ρ' x) : callDeed X ρ nm o = callDeed X ρ' nm o := by
  unfold callDeed
  rw [opDeed_congr h]
  cases hop : o.op <;> simp only
  case call c =>
    have h1 : evAll ρ c.args.toList = evAll ρ' c.args.toList := evAll_congr fun x hx => h x (by rw [hop]; simp [Op.operands, Call.operands]; exact .inr (by simpa using hx))
    rw [h1]

theorem ev_put {G : Globs} {fr : Fr} {d : Nat} {v : AV} {x : Operand} (h : x ≠ .tmp d) : ev G (put1 d v fr) x = ev G fr x := by
  cases x with
  | tmp t =>
    simp only [ev, look_put1]
    rw [if_neg (fun e => h (by rw [e]))]
  | _ => rfl

theorem putD_cases {n : Nat} {d : Option Nat} {v : AV} {fr fr' : Fr} (h : putD n d v fr = some fr') : (d = none ∧ fr' = fr) ∨ ∃ t, d = some t ∧ fr' = put1 t v fr ∧ Nat.blt t n = true := by
  cases d with
  | none => simp only [putD, Option.some.injEq] at h; exact .inl ⟨rfl, h.symm⟩
  | some t =>
    simp only [putD] at h
    cases hb : Nat.blt t n
    · simp [hb] at h
    · simp only [hb, cond_true, Option.some.injEq] at h
      exact .inr ⟨t, rfl, h.symm, hb⟩

/-- What another operation has written makes no difference to an operation that does not look there. -/
theorem act1_put {n : Nat} {i : Nat} {oi : Oper} {d : Option Nat} {v : AV} {fr fr' : Fr} (ho : ops[i]? = some oi) (hd : ∀ t, d = some t → t ∉ oi.looksAt ops) (h : putD n d v fr = some fr') :
    act1 X ops i (ev X.G fr') (seen1 ops fr') = act1 X ops i (ev X.G fr) (seen1 ops fr) := by
  rcases putD_cases h with ⟨_, rfl⟩ | ⟨t, rfl, rfl, _⟩
  · rfl
  · have hno := hd t rfl
    unfold Oper.looksAt at hno
    rw [List.mem_append, not_or] at hno
    have hev : ∀ x ∈ oi.op.operands.toList, ev X.G (put1 t v fr) x = ev X.G fr x := by
      intro x hx
      refine ev_put fun e => hno.1 ?_
      rw [List.mem_filterMap]
      exact ⟨x, hx, by rw [e]⟩
    unfold act1
    simp only [ho]
    cases hg : oi.guard with
    | none => simp only; rw [callDeed_congr hev]
    | some g =>
      obtain ⟨j, want⟩ := g
      simp only
      have hs : seen1 ops (put1 t v fr) j = seen1 ops fr j := by
        unfold seen1
        cases hj : ops[j]? with
        | none => rfl
        | some oj =>
          simp only
          cases hdj : oj.dst with
          | none => rfl
          | some u =>
            simp only
            have : u ≠ t := by
              intro e
              apply hno.2
              simp [hg, hj, hdj, e]
            rw [look_put1, if_neg this]
      rw [hs, callDeed_congr hev]

theorem lookAll_congr {M M' : Mem} : ∀ {l : List Nat}, (∀ b ∈ l, look b M = look b M') → lookAll M l = lookAll M' l
  | [], _ => rfl
  | b :: l, h => by simp only [lookAll, h b (by simp), lookAll_congr (fun x hx => h x (List.mem_cons_of_mem _ hx))]

theorem putAll_look : ∀ {ws : List Nat} {cs : List (Option Blk)} {M M' : Mem}, putAll ws cs M = some M' → (∀ b, b ∉ ws → look b M' = look b M) ∧
    ∀ N : Mem, ∃ N', putAll ws cs N = some N' ∧ (∀ b, b ∈ ws → look b N' = look b M') ∧ ∀ b, look b M = look b N → look b M' = look b N'
  | [], [], M, M', h => by
    simp only [putAll, Option.some.injEq] at h
    subst h
    exact ⟨fun _ _ => rfl, fun N => ⟨N, rfl, by simp, fun _ h => h⟩⟩
  | b :: ws, k :: cs, M, M', h => by
    simp only [putAll] at h
    obtain ⟨h1, h2⟩ := putAll_look h
    have hstep : ∀ (N : Mem) (c : Nat), look c (put0 b k N) = if c = b then k else look c N := by
      intro N c
      cases k with
      | none => simp only [put0, look_drop1]
      | some k => simp only [put0, look_put1]
    refine ⟨fun c hc => ?_, fun N => ?_⟩
    · rw [List.mem_cons, not_or] at hc
      rw [h1 c hc.2, hstep, if_neg hc.1]
    · obtain ⟨N', n1, n2, n3⟩ := h2 (put0 b k N)
      refine ⟨N', by simp only [putAll]; exact n1, fun c hc => ?_, fun c hc => ?_⟩
      · by_cases hcw : c ∈ ws
        · exact n2 c hcw
        · have : c = b := by
            rcases List.mem_cons.1 hc with e | e
            · exact e
            · exact absurd e hcw
          refine (n3 c ?_).symm
          rw [hstep, hstep, this, if_pos rfl, if_pos rfl]
      · refine n3 c ?_
        rw [hstep, hstep, hc]
  | [], _ :: _, _, _, h => by simp [putAll] at h
  | _ :: _, [], _, _, h => by simp [putAll] at h

theorem run_cases {A : Deed} {M M' : Mem} {C : Prop} {v : AV} (h : A.run M = some (C, v, M')) : ∃ bs cs, lookAll M A.rd = some bs ∧ A.go bs = some (C, v, cs) ∧ putAll A.wr cs M = some M' := by
  unfold Deed.run at h
  split at h
  · cases h
  · rename_i bs hbs
    split at h
    · cases h
    · rename_i C' v' cs hgo
      split at h
      · cases h
      · rename_i M1 hput
        simp only [Option.some.injEq, Prod.mk.injEq] at h
        obtain ⟨rfl, rfl, rfl⟩ := h
        exact ⟨bs, cs, hbs, hgo, hput⟩

theorem run_of {A : Deed} {M M' : Mem} {C : Prop} {v : AV} {bs : List Blk} {cs : List (Option Blk)} (h1 : lookAll M A.rd = some bs) (h2 : A.go bs = some (C, v, cs)) (h3 : putAll A.wr cs M = some M') : A.run M = some (C, v, M') := by
  unfold Deed.run
  simp only [h1, h2, h3]

theorem step1_cases {i : Nat} {s s' : St} {C : Prop} (h : step1 X ops i s = some (C, s')) : ∃ o A C1 v M', ops[i]? = some o ∧ act1 X ops i (ev X.G s.1) (seen1 ops s.1) = some A ∧ A.run s.2 = some (C1, v, M') ∧
    putD X.n o.dst (hint1 X.hints o.dst v).2 s.1 = some s'.1 ∧ s'.2 = M' ∧ C = (C1 ∧ (hint1 X.hints o.dst v).1) := by
  unfold step1 at h
  split at h
  · rename_i o A ho hA
    split at h
    · rename_i C1 v M' hrun
      simp only at h
      split at h
      · rename_i fr' hput
        simp only [Option.some.injEq, Prod.mk.injEq] at h
        obtain ⟨rfl, rfl⟩ := h
        exact ⟨o, A, C1, v, M', ho, hA, hrun, hput, rfl, rfl⟩
      · cases h
    · cases h
  · cases h

theorem step1_of {i : Nat} {s : St} {o : Oper} {A : Deed} {C1 : Prop} {v : AV} {M' : Mem} {fr' : Fr} (ho : ops[i]? = some o) (hA : act1 X ops i (ev X.G s.1) (seen1 ops s.1) = some A) (hr : A.run s.2 = some (C1, v, M'))
    (hp : putD X.n o.dst (hint1 X.hints o.dst v).2 s.1 = some fr') : step1 X ops i s = some (C1 ∧ (hint1 X.hints o.dst v).1, fr', M') := by
  unfold step1
  simp only [ho, hA, hr, hp]

theorem ev_eqS {G : Globs} {s t : St} (h : EqS s t) : ev G s.1 = ev G t.1 := by
  funext x
  cases x with
  | tmp n => exact h.1 n
  | _ => rfl

theorem seen1_eqS {s t : St} (h : EqS s t) : seen1 ops s.1 = seen1 ops t.1 := by
  funext j
  unfold seen1
  cases ops[j]? with
  | none => rfl
  | some o =>
    simp only
    cases o.dst with
    | none => rfl
    | some d => simp only [h.1 d]

theorem putD_any {n : Nat} {d : Option Nat} {v : AV} {fr fr' : Fr} (h : putD n d v fr = some fr') (g : Fr) : ∃ g', putD n d v g = some g' ∧ ∀ m, look m g' = if d = some m then some v else look m g := by
  rcases putD_cases h with ⟨rfl, rfl⟩ | ⟨t, rfl, rfl, hb⟩
  · exact ⟨g, rfl, fun m => by simp⟩
  · refine ⟨put1 t v g, by simp [putD, hb], fun m => ?_⟩
    rw [look_put1]
    by_cases e : m = t
    · subst e; simp
    · rw [if_neg e, if_neg (fun h => e (by injection h with h; exact h.symm))]

theorem putD_look {n : Nat} {d : Option Nat} {v : AV} {fr fr' : Fr} (h : putD n d v fr = some fr') (m : Nat) : look m fr' = if d = some m then some v else look m fr := by
  obtain ⟨g', h1, h2⟩ := putD_any h fr
  rw [h] at h1
  injection h1 with h1
  subst h1
  exact h2 m

theorem step1_eqS {i : Nat} {s t s' : St} {C : Prop} (h : step1 X ops i s = some (C, s')) (he : EqS s t) : ∃ t', step1 X ops i t = some (C, t') ∧ EqS s' t' := by
  obtain ⟨o, A, C1, v, M', ho, hA, hr, hp, h2, rfl⟩ := step1_cases h
  obtain ⟨bs, cs, r1, r2, r3⟩ := run_cases hr
  obtain ⟨N', n1, _, n3⟩ := (putAll_look r3).2 t.2
  obtain ⟨g', g1, g2⟩ := putD_any hp t.1
  refine ⟨(g', N'), step1_of ho (by rw [← ev_eqS he, ← seen1_eqS he]; exact hA) (run_of (by rw [← lookAll_congr (fun b _ => he.2 b)]; exact r1) r2 n1) g1, fun m => ?_, fun b => ?_⟩
  · rw [putD_look hp, g2, he.1]
  · rw [h2]; exact n3 b (he.2 b)

/-! ### a run and what each of its operations touches -/
abbrev Foot := Nat × List Nat × List Nat

def RunF (X : Cx) (ops : Array Oper) : List Foot → St → St → Prop
  | [], s, s' => EqS s s'
  | (i, rd, wr) :: l, s, s' => ∃ A C s1, act1 X ops i (ev X.G s.1) (seen1 ops s.1) = some A ∧ A.rd = rd ∧ A.wr = wr ∧ step1 X ops i s = some (C, s1) ∧ C ∧ RunF X ops l s1 s'

theorem RunF.eqS : ∀ {l : List Foot} {s t s' : St}, RunF X ops l s s' → EqS s t → RunF X ops l t s'
  | [], _, _, _, h, he => he.symm.trans h
  | (i, rd, wr) :: l, s, t, s', ⟨A, C, s1, h1, h2, h3, h4, h5, h6⟩, he => by
    obtain ⟨t1, t2, t3⟩ := step1_eqS h4 he
    exact ⟨A, C, t1, by rw [← ev_eqS he, ← seen1_eqS he]; exact h1, h2, h3, t2, h5, h6.eqS t3⟩

def disj (a b : List Nat) : Bool := a.all fun x => !(b.any (Nat.beq x))

theorem disj_iff {a b : List Nat} (h : disj a b = true) {x : Nat} (ha : x ∈ a) : x ∉ b := by
  unfold disj at h
  rw [List.all_eq_true] at h
  have := h x ha
  intro hb
  have h2 : b.any (Nat.beq x) = true := List.any_eq_true.2 ⟨x, hb, beqT x⟩
  rw [h2] at this
  cases this

/-- The two may change places. -/
def indep (ops : Array Oper) (x y : Foot) : Bool :=
  (match ops[x.1]?, ops[y.1]? with
   | some ox, some oy => ox.apart ops oy
   | _, _ => false) && disj x.2.2 (y.2.1 ++ y.2.2) && disj y.2.2 x.2.1

theorem swap {x y : Foot} {l : List Foot} {s s' : St} (hi : indep ops x y = true) (h : RunF X ops (x :: y :: l) s s') : RunF X ops (y :: x :: l) s s' := by
  obtain ⟨j, rj, wj⟩ := x
  obtain ⟨i, ri, wi⟩ := y
  obtain ⟨Aj, Cj, s1, j1, rfl, rfl, j4, j5, Ai, Ci, s2, i1, rfl, rfl, i4, i5, hrest⟩ := h
  obtain ⟨oj, Aj', Cj1, vj, Mj, oj1, oj2, oj3, oj4, oj5, rfl⟩ := step1_cases j4
  obtain ⟨oi, Ai', Ci1, vi, Mi, oi1, oi2, oi3, oi4, oi5, rfl⟩ := step1_cases i4
  rw [j1] at oj2; injection oj2 with oj2; subst oj2
  rw [i1] at oi2; injection oi2 with oi2; subst oi2
  simp only [indep, oj1, oi1, Bool.and_eq_true] at hi
  obtain ⟨⟨hap, hd1⟩, hd2⟩ := hi
  obtain ⟨p1, p2, p3⟩ := Oper.apart_spec hap
  -- i at s
  have hAi : act1 X ops i (ev X.G s.1) (seen1 ops s.1) = some Ai := by rw [← act1_put oi1 p1 oj4]; exact i1
  obtain ⟨bj, cj, rj1, rj2, rj3⟩ := run_cases oj3
  obtain ⟨bi, ci, ri1, ri2, ri3⟩ := run_cases oi3
  have hMj : ∀ b, b ∉ Aj.wr → look b s1.2 = look b s.2 := by rw [oj5]; exact (putAll_look rj3).1
  have hlook_i : lookAll s.2 Ai.rd = some bi := by
    rw [← ri1]
    refine lookAll_congr fun b hb => ?_
    exact (hMj b (fun hw => disj_iff hd1 hw (List.mem_append_left _ hb))).symm
  obtain ⟨Ni, ni1, ni2, ni3⟩ := (putAll_look ri3).2 s.2
  obtain ⟨gi, gi1, gi2⟩ := putD_any oi4 s.1
  have stepi : step1 X ops i s = some (Ci1 ∧ (hint1 X.hints oi.dst vi).1, gi, Ni) := step1_of oi1 hAi (run_of hlook_i ri2 ni1) gi1
  -- j behind it
  have hAj : act1 X ops j (ev X.G gi) (seen1 ops gi) = some Aj := by rw [act1_put oj1 p3 gi1]; exact j1
  have hNi : ∀ b, b ∉ Ai.wr → look b Ni = look b s.2 := (putAll_look ni1).1
  have hlook_j : lookAll Ni Aj.rd = some bj := by
    rw [← rj1]
    refine lookAll_congr fun b hb => hNi b fun hw => disj_iff hd2 hw hb
  obtain ⟨Nj, nj1, nj2, nj3⟩ := (putAll_look rj3).2 Ni
  obtain ⟨gj, gj1, gj2⟩ := putD_any oj4 gi
  have stepj : step1 X ops j (gi, Ni) = some (Cj1 ∧ (hint1 X.hints oj.dst vj).1, gj, Nj) := step1_of oj1 hAj (run_of hlook_j rj2 nj1) gj1
  refine ⟨Ai, _, (gi, Ni), hAi, rfl, rfl, stepi, i5, Aj, _, (gj, Nj), hAj, rfl, rfl, stepj, j5, hrest.eqS ⟨fun m => ?_, fun b => ?_⟩⟩
  · rw [putD_look oi4, gj2, gi2, putD_look oj4]
    by_cases e1 : oi.dst = some m
    · rw [if_pos e1, if_neg (fun e2 => p2 m e2 e1), if_pos e1]
    · rw [if_neg e1, if_neg e1]
  · show look b s2.2 = look b Nj
    rw [oi5]
    by_cases hbi : b ∈ Ai.wr
    · have hbj : b ∉ Aj.wr := fun h => disj_iff hd1 h (List.mem_append_right _ hbi)
      rw [(putAll_look nj1).1 b hbj, ni2 b hbi]
    · rw [(putAll_look ri3).1 b hbi]
      by_cases hbj : b ∈ Aj.wr
      · rw [oj5, nj2 b hbj]
      · rw [hMj b hbj, (putAll_look nj1).1 b hbj, hNi b hbi]

theorem bubble : ∀ {pre post : List Foot} {y : Foot} {s s' : St}, (∀ x ∈ pre, indep ops x y = true) → RunF X ops (pre ++ y :: post) s s' → RunF X ops (y :: (pre ++ post)) s s'
  | [], _, _, _, _, _, h => h
  | (j, rj, wj) :: pre, post, y, s, s', hi, h => by
    obtain ⟨A, C, s1, h1, h2, h3, h4, h5, h6⟩ := h
    have := bubble (pre := pre) (fun x hx => hi x (List.mem_cons_of_mem _ hx)) h6
    exact swap (hi _ (by simp)) ⟨A, C, s1, h1, h2, h3, h4, h5, this⟩

end
end Go.Vm
