/- The small machine and a region whose order is drawn: the theorem. And the rules by which code is gone through. -/
import Derived.Test.YtfkmfdjdppjijaaVnN
set_option linter.unusedVariables false
set_option linter.unusedSimpArgs false
namespace Go.Vm
open Go

def preds (o : Oper) : List Nat := (o.after.toList.filter (Region.binds .any)).map (·.on)

/-- ms tells of each operation all that must have come before it. -/
def masksOk (ops : Array Oper) (ms : List Nat) : Bool :=
  (List.range ops.size).all fun i => match ops[i]? with
    | some o => Nat.beq (ms.getD i 0) ((preds o).foldl (fun m k => m ||| (2 ^ k ||| ms.getD k 0)) 0) && (preds o).all fun k => Nat.blt k i
    | none => false

def pairsOk (ops : Array Oper) (ms : List Nat) : List Foot → Bool
  | [] => true
  | x :: l => (l.all fun y => Nat.testBit (ms.getD y.1 0) x.1 || indep ops x y) && pairsOk ops ms l

def runT (X : Cx) (ops : Array Oper) : List Nat → St → Option (Prop × St × List Foot)
  | [], s => some (True, s, [])
  | i :: l, s => match act1 X ops i (ev X.G s.1) (seen1 ops s.1), step1 X ops i s with
    | some A, some (C, s1) => match runT X ops l s1 with
      | none => none
      | some (C', s2, F) => some (C ∧ C', s2, (i, A.rd, A.wr) :: F)
    | _, _ => none

/-- A region whose order is drawn. -/
def runD (X : Cx) (ops : Array Oper) (ms : List Nat) (s : St) : Option (Prop × St) :=
  match runT X ops (List.range ops.size) s with
  | some (C, s', F) => bif masksOk ops ms && pairsOk ops ms F then some (C, s') else none
  | none => none

section
variable {E : Env} {X : Cx} {ops : Array Oper} {σ : Sig}

theorem runT_F : ∀ {l : List Nat} {s s' : St} {C : Prop} {F : List Foot}, runT X ops l s = some (C, s', F) → C → RunF X ops F s s' ∧ F.map (·.1) = l
  | [], s, s', C, F, h, _ => by
    simp only [runT, Option.some.injEq, Prod.mk.injEq] at h
    obtain ⟨_, rfl, rfl⟩ := h
    exact ⟨EqS.refl _, rfl⟩
  | i :: l, s, s', C, F, h, hC => by
    simp only [runT] at h
    split at h
    · rename_i A C1 s1 hA h1
      split at h
      · cases h
      · rename_i C2 s2 F2 h2
        simp only [Option.some.injEq, Prod.mk.injEq] at h
        obtain ⟨rfl, rfl, rfl⟩ := h
        obtain ⟨r1, r2⟩ := runT_F h2 hC.2
        exact ⟨⟨A, C1, s1, hA, rfl, rfl, h1, hC.1, r1⟩, by simp [r2]⟩
    · cases h

theorem testBit_fold (ms : List Nat) (x : Nat) : ∀ (l : List Nat) (m : Nat), Nat.testBit (l.foldl (fun m k => m ||| (2 ^ k ||| ms.getD k 0)) m) x = true → Nat.testBit m x = true ∨ ∃ k ∈ l, k = x ∨ Nat.testBit (ms.getD k 0) x = true
  | [], m, h => .inl h
  | k :: l, m, h => by
    rcases testBit_fold ms x l _ h with h1 | ⟨q, hq, h2⟩
    · rw [Nat.testBit_or, Nat.testBit_or, Bool.or_eq_true, Bool.or_eq_true] at h1
      rcases h1 with h1 | h1 | h1
      · exact .inl h1
      · refine .inr ⟨k, by simp, .inl ?_⟩
        rw [Nat.testBit_two_pow] at h1
        simpa using h1
      · exact .inr ⟨k, by simp, .inr h1⟩
    · exact .inr ⟨q, List.mem_cons_of_mem _ hq, h2⟩

theorem masksOk_at {ms : List Nat} (h : masksOk ops ms = true) {i : Nat} {o : Oper} (ho : ops[i]? = some o) : (∀ x, Nat.testBit (ms.getD i 0) x = true → ∃ k ∈ preds o, k = x ∨ Nat.testBit (ms.getD k 0) x = true) ∧ ∀ k ∈ preds o, k < i := by
  unfold masksOk at h
  rw [List.all_eq_true] at h
  have hi := (Array.getElem?_eq_some_iff.1 ho).1
  have := h i (List.mem_range.2 hi)
  simp only [ho, Bool.and_eq_true] at this
  obtain ⟨h1, h2⟩ := this
  have h1 := Nat.eq_of_beq_eq_true h1
  refine ⟨fun x hx => ?_, fun k hk => ?_⟩
  · rw [h1] at hx
    rcases testBit_fold ms x _ _ hx with h3 | h3
    · simp at h3
    · exact h3
  · rw [List.all_eq_true] at h2
    have := Nat.le_of_ble_eq_true (show Nat.ble (k + 1) i = true from h2 k hk)
    omega

theorem pairsOk_pre {ms : List Nat} : ∀ {pre post : List Foot} {y : Foot}, pairsOk ops ms (pre ++ y :: post) = true → (∀ x ∈ pre, Nat.testBit (ms.getD y.1 0) x.1 = true ∨ indep ops x y = true) ∧ pairsOk ops ms (pre ++ post) = true
  | [], post, y, h => by
    simp only [List.nil_append, pairsOk, Bool.and_eq_true] at h
    exact ⟨by simp, h.2⟩
  | z :: pre, post, y, h => by
    simp only [List.cons_append, pairsOk, Bool.and_eq_true] at h
    obtain ⟨h1, h2⟩ := pairsOk_pre h.2
    rw [List.all_eq_true] at h
    refine ⟨fun x hx => ?_, ?_⟩
    · rcases List.mem_cons.1 hx with rfl | hx
      · have := h.1 y (by simp)
        rwa [Bool.or_eq_true] at this
      · exact h1 x hx
    · simp only [List.cons_append, pairsOk, Bool.and_eq_true]
      refine ⟨List.all_eq_true.2 fun q hq => h.1 q ?_, h2⟩
      rcases List.mem_append.1 hq with e | e
      · exact List.mem_append_left _ e
      · exact List.mem_append_right _ (List.mem_cons_of_mem _ e)

theorem mem_ready {listed : Array Bool} {i : Nat} : i ∈ Region.ready .any ops listed ↔ i < ops.size ∧ listed.getD i true = false ∧ ∃ o, ops[i]? = some o ∧ ∀ k ∈ preds o, listed.getD k false = true := by
  unfold Region.ready preds
  rw [List.mem_filter, List.mem_range]
  constructor
  · rintro ⟨h1, h2⟩
    simp only [Bool.and_eq_true, Bool.not_eq_true'] at h2
    obtain ⟨h2, h3⟩ := h2
    cases ho : ops[i]? with
    | none => simp [ho] at h3
    | some o =>
      refine ⟨h1, h2, o, rfl, fun k hk => ?_⟩
      simp only [ho, Option.map_some, Option.getD_some] at h3
      simp only [List.mem_map, List.mem_filter] at hk
      obtain ⟨e, ⟨he1, he2⟩, rfl⟩ := hk
      rw [Array.all_eq_true] at h3
      obtain ⟨j, hj, rfl⟩ := List.getElem_of_mem he1
      have := h3 j (by simpa using hj)
      simp only [Array.getElem_toList] at he2
      simpa [he2] using this
  · rintro ⟨h1, h2, o, ho, h3⟩
    refine ⟨h1, ?_⟩
    simp only [h2, Bool.not_false, Bool.true_and, ho, Option.map_some, Option.getD_some]
    rw [Array.all_eq_true]
    intro j hj
    cases hb : Region.binds .any o.after[j] with
    | false => simp
    | true =>
      have := h3 o.after[j].on (List.mem_map.2 ⟨o.after[j], List.mem_filter.2 ⟨by simp, hb⟩, rfl⟩)
      simp [this]

theorem wpAny_of_run (hT : TabOk X.P X.G X.tab) {ms : List Nat} (hms : masksOk ops ms = true) {Q : Exit → Act → World → Prop} {s' : St} : ∀ (fuel : Nat) (listed : Array Bool) (rem : List Foot) (E : Env) (σ : Sig) (s : St) (a : Act) (w : World), E.P = X.P → GlobsOk E X.G →
    rem.length ≤ fuel → listed.size = ops.size → (∀ i, i < ops.size → (listed.getD i true = false ↔ ∃ f ∈ rem, f.1 = i)) → (∀ f ∈ rem, f.1 < ops.size) → (rem.map (·.1)).Pairwise (· < ·) → pairsOk ops ms rem = true →
    (∀ k x, k < ops.size → listed.getD k true = true → Nat.testBit (ms.getD k 0) x = true → listed.getD x true = true) → RunF X ops rem s s' → StR E X.n σ s.1 s.2 a w →
    (∀ f ∈ rem, ∀ m, X.base + 16 * f.1 ≤ m → m < X.base + 16 * f.1 + 16 → σ m = .unset) →
    (∀ E' σ' a' w', Grow E E' → Ext σ σ' → (∀ m, (m < X.base ∨ X.base + 16 * ops.size ≤ m) → σ' m = σ m) → StR E' X.n σ' s'.1 s'.2 a' w' → Q .normal a' w') → wpAny X.P .any ops Q fuel listed a w := by
  intro fuel
  induction fuel with
  | zero =>
    intro listed rem E σ s a w hP hG hlen hsz hrem hlt hpw hpo hcl hrun hs hn hQ
    have : rem = [] := List.eq_nil_of_length_eq_zero (by omega)
    subst this
    refine ⟨?_, hQ E σ a w (.refl _) (.refl _) (fun _ _ => rfl) (hs.eqS hrun)⟩
    apply List.eq_nil_iff_forall_not_mem.2
    intro i hi
    obtain ⟨h1, h2, _⟩ := mem_ready.1 hi
    obtain ⟨f, hf, _⟩ := (hrem i h1).1 h2
    cases hf
  | succ fuel ih =>
    intro listed rem E σ s a w hP hG hlen hsz hrem hlt hpw hpo hcl hrun hs hn hQ
    refine ⟨fun hnil => ?_, fun i hi => ?_⟩
    · -- nothing is ready: nothing is left
      cases rem with
      | nil => exact hQ E σ a w (.refl _) (.refl _) (fun _ _ => rfl) (hs.eqS hrun)
      | cons f rem =>
        exfalso
        have hfl := hlt f (by simp)
        obtain ⟨o, ho⟩ : ∃ o, ops[f.1]? = some o := ⟨ops[f.1], Array.getElem?_eq_getElem hfl⟩
        have : f.1 ∈ Region.ready .any ops listed := by
          refine mem_ready.2 ⟨hfl, (hrem _ hfl).2 ⟨f, by simp, rfl⟩, o, ho, fun k hk => ?_⟩
          have hk1 := (masksOk_at hms ho).2 k hk
          cases hl : listed.getD k true with
          | true =>
            have : k < listed.size := by omega
            simp only [Array.getD_eq_getD_getElem?, Array.getElem?_eq_getElem this, Option.getD_some] at hl ⊢
            exact hl
          | false =>
            exfalso
            obtain ⟨g, hg, hgk⟩ := (hrem k (by omega)).1 hl
            rcases List.mem_cons.1 hg with rfl | hg
            · omega
            · have h2 : f.1 < g.1 := (List.pairwise_cons.1 (show ((f :: rem).map (·.1)).Pairwise (· < ·) from hpw)).1 g.1 (List.mem_map.2 ⟨g, hg, rfl⟩)
              exact Nat.lt_irrefl f.1 (Nat.lt_trans (show f.1 < k from hgk ▸ h2) hk1)
        rw [hnil] at this
        cases this
    · obtain ⟨h1, h2, o, ho, h3⟩ := mem_ready.1 hi
      obtain ⟨f, hf, hfi⟩ := (hrem i h1).1 h2
      obtain ⟨pre, post, hsplit⟩ := List.append_of_mem hf
      subst hsplit
      have hlisted : ∀ k ∈ preds o, listed.getD k true = true ∧ k < ops.size := by
        intro k hk
        have h4 := h3 k hk
        have h5 := (masksOk_at hms ho).2 k hk
        have : k < listed.size := by omega
        simp only [Array.getD_eq_getD_getElem?, Array.getElem?_eq_getElem this, Option.getD_some] at h4 ⊢
        exact ⟨h4, by omega⟩
      obtain ⟨p1, p2⟩ := pairsOk_pre hpo
      have hind : ∀ x ∈ pre, indep ops x f = true := by
        intro x hx
        rcases p1 x hx with hb | hb
        · exfalso
          have hxl : listed.getD x.1 true = false := (hrem x.1 (hlt x (List.mem_append_left _ hx))).2 ⟨x, List.mem_append_left _ hx, rfl⟩
          rw [hfi] at hb
          obtain ⟨k, hk, hk2⟩ := (masksOk_at hms ho).1 x.1 hb
          obtain ⟨l1, l2⟩ := hlisted k hk
          rcases hk2 with rfl | hk2
          · rw [l1] at hxl; cases hxl
          · rw [hcl k x.1 l2 l1 hk2] at hxl; cases hxl
        · exact hb
      obtain ⟨j, rd, wr⟩ := f
      simp only at hfi
      subst hfi
      obtain ⟨A, C, s1, q1, q2, q3, q4, q5, q6⟩ := bubble hind hrun
      refine step1_wp hP hG hT hs (hn _ hf) q4 q5 fun E' σ' a' w' hgr hx hot hs' => ?_
      have hpw' : ((pre ++ post).map (·.1)).Pairwise (· < ·) := by
        refine List.Pairwise.sublist ?_ hpw
        exact List.Sublist.map _ (List.Sublist.append (List.Sublist.refl _) (List.sublist_cons_self _ _))
      have hne : ∀ g ∈ pre ++ post, g.1 ≠ j := by
        intro g hg e
        rw [List.map_append, List.map_cons] at hpw
        obtain ⟨_, w2, w3⟩ := List.pairwise_append.1 hpw
        rcases List.mem_append.1 hg with h | h
        · have := w3 g.1 (List.mem_map.2 ⟨g, h, rfl⟩) j (by simp)
          omega
        · have := (List.pairwise_cons.1 w2).1 g.1 (List.mem_map.2 ⟨g, h, rfl⟩)
          omega
      have hget : ∀ k, (listed.setIfInBounds j true).getD k true = if k = j then true else listed.getD k true := by
        intro k
        simp only [Array.getD_eq_getD_getElem?]
        by_cases e : k = j
        · subst e
          rw [if_pos rfl, Array.getElem?_setIfInBounds_self]
          split <;> rfl
        · rw [if_neg e, Array.getElem?_setIfInBounds_ne (Ne.symm e)]
      refine ih (listed.setIfInBounds j true) (pre ++ post) E' σ' s1 a' w' (hgr.P.trans hP) (hG.grow hgr) (by simp at hlen ⊢; omega) (by simpa using hsz) (fun k hk => ?_) (fun g hg => hlt g ?_) hpw' p2 (fun k x hk hl hb => ?_) q6 hs' (fun g hg m hm1 hm2 => ?_) fun E'' σ'' a'' w'' hgr' hx' hot' hs'' => ?_
      · rw [hget]
        by_cases e : k = j
        · rw [if_pos e]
          constructor
          · intro h; cases h
          · rintro ⟨g, hg, hgk⟩; exact absurd (hgk.trans e) (hne g hg)
        · rw [if_neg e, hrem k hk]
          constructor
          · rintro ⟨g, hg, hgk⟩
            refine ⟨g, ?_, hgk⟩
            rcases List.mem_append.1 hg with h | h
            · exact List.mem_append_left _ h
            · rcases List.mem_cons.1 h with h | h
              · exfalso; rw [h] at hgk; exact e hgk.symm
              · exact List.mem_append_right _ h
          · rintro ⟨g, hg, hgk⟩
            refine ⟨g, ?_, hgk⟩
            rcases List.mem_append.1 hg with h | h
            · exact List.mem_append_left _ h
            · exact List.mem_append_right _ (List.mem_cons_of_mem _ h)
      · rcases List.mem_append.1 hg with h | h
        · exact List.mem_append_left _ h
        · exact List.mem_append_right _ (List.mem_cons_of_mem _ h)
      · rw [hget] at hl ⊢
        by_cases ex : x = j
        · rw [if_pos ex]
        · rw [if_neg ex]
          by_cases e : k = j
          · subst e
            obtain ⟨q, hq, hq2⟩ := (masksOk_at hms ho).1 x hb
            obtain ⟨l1, l2⟩ := hlisted q hq
            rcases hq2 with rfl | hq2
            · exact l1
            · exact hcl q x l2 l1 hq2
          · rw [if_neg e] at hl
            exact hcl k x hk hl hb
      · have hgne := hne g hg
        rw [hot m (by omega)]
        refine hn g ?_ m hm1 hm2
        rcases List.mem_append.1 hg with h | h
        · exact List.mem_append_left _ h
        · exact List.mem_append_right _ (List.mem_cons_of_mem _ h)
      · refine hQ E'' σ'' a'' w'' (hgr.trans hgr') (hx.trans hx') (fun m hm => ?_) hs''
        rw [hot' m hm, hot m (by omega)]

theorem runD_wp {id : Nat} (hP : E.P = X.P) (hG : GlobsOk E X.G) (hT : TabOk X.P X.G X.tab) (hmix : X.P.follows .mixedOrders = true) {ms : List Nat} {Q : Exit → Act → World → Prop} {s s' : St} {a : Act} {w : World} {C : Prop} (hs : StR E X.n σ s.1 s.2 a w)
    (hn : ∀ m, X.base ≤ m → m < X.base + 16 * ops.size → σ m = .unset) (h : runD X ops ms s = some (C, s')) (hC : C)
    (hQ : ∀ E' σ' a' w', Grow E E' → Ext σ σ' → (∀ m, (m < X.base ∨ X.base + 16 * ops.size ≤ m) → σ' m = σ m) → StR E' X.n σ' s'.1 s'.2 a' w' → Q .normal a' w') : (Code.region id ops true).wp X.P Q a w := by
  unfold runD at h
  split at h
  · rename_i C1 s1 F hrun
    cases hb : (masksOk ops ms && pairsOk ops ms F)
    · simp [hb] at h
    · simp only [hb, cond_true, Option.some.injEq, Prod.mk.injEq] at h
      obtain ⟨rfl, rfl⟩ := h
      rw [Bool.and_eq_true] at hb
      obtain ⟨f1, f2⟩ := runT_F hrun hC
      have hlen : F.length = ops.size := by
        have := congrArg List.length f2
        simpa using this
      have hlt : ∀ f ∈ F, f.1 < ops.size := by
        intro f hf
        have : f.1 ∈ F.map (·.1) := List.mem_map.2 ⟨f, hf, rfl⟩
        rw [f2] at this
        exact List.mem_range.1 this
      refine wp_region_any hmix ?_
      have hs2 : StR E X.n σ s.1 s.2 a { w with drawn := w.drawn + 1 } := { toFrR := hs.toFrR, toMemR := hs.toMemR.world rfl rfl rfl rfl, tmps := hs.tmps }
      refine wpAny_of_run hT hb.1 ops.size _ F E σ s a _ hP hG (by omega) (by simp) (fun i hi => ?_) hlt (by rw [f2]; exact List.pairwise_lt_range) hb.2 (fun k x hk hl _ => ?_) f1 hs2 (fun f hf m h1 h2 => hn m (by omega) (by have := hlt f hf; omega)) hQ
      · have : i ∈ F.map (·.1) := by rw [f2]; exact List.mem_range.2 hi
        obtain ⟨f, hf, hfi⟩ := List.mem_map.1 this
        constructor
        · intro _; exact ⟨f, hf, hfi⟩
        · intro _; simp [hi]
      · exfalso
        simp [hk] at hl
  · cases h

theorem runL_region {id : Nat} (hP : E.P = X.P) (hG : GlobsOk E X.G) (hT : TabOk X.P X.G X.tab) {Q : Exit → Act → World → Prop} {s s' : St} {a : Act} {w : World} {C : Prop} (hs : StR E X.n σ s.1 s.2 a w)
    (hn : ∀ m, X.base ≤ m → m < X.base + 16 * ops.size → σ m = .unset) (h : runL X ops (List.range ops.size) s = some (C, s')) (hC : C)
    (hQ : ∀ E' σ' a' w', Grow E E' → Ext σ σ' → (∀ m, (m < X.base ∨ X.base + 16 * ops.size ≤ m) → σ' m = σ m) → StR E' X.n σ' s'.1 s'.2 a' w' → Q .normal a' w') : (Code.region id ops false).wp X.P Q a w := by
  refine wp_region ?_
  refine runL_wp hT _ E σ s s' a w C hP hG List.nodup_range hs (fun i hi m h1 h2 => ?_) h hC fun E' σ' a' w' hgr hx ho hs' => hQ E' σ' a' w' hgr hx (fun m hm => ho m fun i hi => ?_) hs'
  · have := List.mem_range.1 hi
    exact hn m (by omega) (by omega)
  · have := List.mem_range.1 hi
    omega

end
end Go.Vm
