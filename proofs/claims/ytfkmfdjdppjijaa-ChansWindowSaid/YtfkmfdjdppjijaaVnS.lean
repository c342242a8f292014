/- What printed walks stand on: tables of known functions, counted loops, small numbers. -/
import Derived.Test.YtfkmfdjdppjijaaVnR
set_option linter.unusedVariables false
set_option linter.unusedSimpArgs false
namespace Go.Vm
open Go

/-- What is known of a function: how many blocks it is handed, how many new ones come back at most, what it answers. -/
structure Sig1 where
  m : Nat
  nb : Nat
  spec : List AV → List Blk → Option (Prop × Ret)

structure Known (P : Program) (G : Globs) (f : FuncId) (z : Sig1) : Prop where
  nb : z.nb ≤ 16
  pure : PureAt P G f z.m z.spec

/-- Where nothing is asked. -/
abbrev TT : Prop := True ∧ True
theorem tt : TT := ⟨trivial, trivial⟩

/-! ### calls that leave what they are handed as it was -/
theorem lookAll_same {M N : Mem} (h : ∀ b, look b N = look b M) : ∀ l : List Nat, lookAll N l = lookAll M l
  | [] => rfl
  | b :: r => by rw [lookAll, lookAll, h b, lookAll_same h r]
theorem putAll_same : ∀ (ws : List Nat) (cs : List (Option Blk)) {M N M' : Mem}, (∀ b, look b N = look b M) → putAll ws cs M = some M' → ∃ N', putAll ws cs N = some N' ∧ ∀ b, look b N' = look b M'
  | [], [], M, N, M', h, hp => by
    simp only [putAll, Option.some.injEq] at hp
    subst hp
    exact ⟨N, rfl, h⟩
  | b :: ws, c :: cs, M, N, M', h, hp => by
    rw [putAll] at hp ⊢
    refine putAll_same ws cs (M := put0 b c M) (fun d => ?_) hp
    cases c with
    | none => show look d (drop1 b N) = look d (drop1 b M); rw [look_drop1, look_drop1, h d]
    | some k => show look d (put1 b k N) = look d (put1 b k M); rw [look_put1, look_put1, h d]
  | [], _ :: _, _, _, _, _, hp => by simp [putAll] at hp
  | _ :: _, [], _, _, _, _, hp => by simp [putAll] at hp
theorem putAll_kept (ns : List Nat) (cs : List (Option Blk)) : ∀ {ws : List Nat} {ks : List Blk} {M : Mem}, lookAll M ws = some ks → ∃ N, (∀ b, look b N = look b M) ∧ putAll (ws ++ ns) (ks.map some ++ cs) M = putAll ns cs N
  | [], ks, M, h => by
    simp only [lookAll, Option.some.injEq] at h
    subst h
    exact ⟨M, fun _ => rfl, rfl⟩
  | b :: ws, ks, M, h => by
    rw [lookAll] at h
    split at h
    · cases h
    rename_i k hk
    split at h
    · cases h
    rename_i ks' hks
    simp only [Option.some.injEq] at h
    subst h
    have same : ∀ d, look d (put1 b k M) = look d M := fun d => by
      rw [look_put1]
      split
      · rename_i e; rw [e, hk]
      · rfl
    obtain ⟨N, h1, h2⟩ := putAll_kept ns cs (ws := ws) (ks := ks') (M := put1 b k M) (by rw [lookAll_same same, hks])
    exact ⟨N, fun d => (h1 d).trans (same d), h2⟩

def callS (ps : List Pass) (ms fs : List Nat) (nb : Nat) (spec : List AV → List Blk → Option (Prop × Ret)) (args : List AV) (nm : Nat) : Option Deed :=
  match callD ps ms fs nb spec args nm with
  | none => none
  | some A => some { rd := A.rd, wr := (List.range nb).map (nm + ·), go := fun ks => match A.go ks with
    | some (C, v, bs) => some (C ∧ bs.take fs.length = (ks.drop ms.length).map some, v, bs.drop fs.length)
    | none => none }

theorem sound_seen {P : Program} {G : Globs} {f : FuncId} {ps : List Pass} {ms fs : List Nat} {nb : Nat} {spec : List AV → List Blk → Option (Prop × Ret)} (h : SoundAt P G f (callD ps ms fs nb spec)) : SoundAt P G f (callS ps ms fs nb spec) := by
  intro E σ M w args Vs nm A C v M' hP hG hM hargs hn hA hrun hC
  unfold callS at hA
  split at hA
  · cases hA
  rename_i A0 hA0
  simp only [Option.some.injEq] at hA
  subst hA
  unfold Deed.run at hrun
  simp only at hrun
  split at hrun
  · cases hrun
  rename_i ks hks
  split at hrun
  · cases hrun
  rename_i C1 v1 cs hgo
  split at hrun
  · cases hrun
  rename_i M1 hput
  simp only [Option.some.injEq, Prod.mk.injEq] at hrun
  obtain ⟨rfl, rfl, rfl⟩ := hrun
  split at hgo
  rotate_left
  · cases hgo
  rename_i C0 v0 bs hgo0
  simp only [Option.some.injEq, Prod.mk.injEq] at hgo
  obtain ⟨rfl, rfl, rfl⟩ := hgo
  have hw : A0.rd = ms ++ fs ∧ A0.wr = fs ++ (List.range nb).map (nm + ·) := by
    unfold callD at hA0
    cases hck : renOk (downN fs) big && renOk (upN fs nm nb) big && ms.all (fun b => !fs.any (Nat.beq b))
    · simp [hck] at hA0
    simp only [hck, cond_true, Option.some.injEq] at hA0
    subst hA0
    exact ⟨rfl, rfl⟩
  have hks' := hks
  rw [hw.1] at hks'
  obtain ⟨_, hfs⟩ := lookAll_append hks'
  have hb : bs = (ks.drop ms.length).map some ++ bs.drop fs.length := by rw [← hC.2, List.take_append_drop]
  obtain ⟨N, hN, e⟩ := putAll_kept ((List.range nb).map (nm + ·)) (bs.drop fs.length) hfs
  obtain ⟨N', hN', hl⟩ := putAll_same _ _ hN hput
  have run : A0.run M = some (C0, v0, N') := by
    unfold Deed.run
    rw [hks]
    simp only
    rw [hgo0]
    simp only
    rw [hw.2, hb, e, hN']
  refine (h E σ M w args Vs nm A0 C0 v0 N' hP hG hM hargs hn hA0 run hC.1).mono ?_
  rintro V w' ⟨E', σ', q1, q2, q3, q4, q5⟩
  exact ⟨E', σ', q1, q2, q3, q4, q5.less fun b k hb => by rw [hl b]; exact hb⟩

/-- One call: the function, the call's name, how its arguments are handed over, the blocks that are lent and those that are handed in, what is known. -/
structure Site where
  f : FuncId
  nm : Nat
  ps : List Pass
  ms : List Nat
  fs : List Nat
  z : Sig1
  see : Bool
abbrev Lib := List Site

def tabOf : Lib → Tab
  | [], _, _, _ => none
  | x :: r, f, args, nm => bif Nat.beq x.f f && Nat.beq x.nm nm then (bif Nat.beq x.fs.length x.z.m then (bif x.see then callS x.ps x.ms x.fs x.z.nb x.z.spec args nm else callD x.ps x.ms x.fs x.z.nb x.z.spec args nm) else none) else tabOf r f args nm

def allKnown (P : Program) (G : Globs) : Lib → Prop
  | [] => True
  | x :: r => Known P G x.f x.z ∧ allKnown P G r

theorem tabOk {P : Program} {G : Globs} : ∀ {l : Lib}, allKnown P G l → TabOk P G (tabOf l)
  | [], _, f, args, nm, A, hA => by simp [tabOf] at hA
  | x :: r, h, f, args, nm, A, hA => by
    unfold tabOf at hA
    cases hb : Nat.beq x.f f && Nat.beq x.nm nm
    · rw [hb] at hA
      exact tabOk h.2 f args nm A hA
    · rw [hb, cond_true] at hA
      cases hm : Nat.beq x.fs.length x.z.m
      · rw [hm] at hA; cases hA
      · rw [hm, cond_true] at hA
        rw [Bool.and_eq_true] at hb
        have e1 := Nat.eq_of_beq_eq_true hb.1
        have e2 := Nat.eq_of_beq_eq_true hm
        subst e1
        have h0 : SoundAt P G x.f (callD x.ps x.ms x.fs x.z.nb x.z.spec) := sound_of_pure h.1.nb (e2 ▸ h.1.pure)
        cases hs : x.see
        · rw [hs, cond_false] at hA
          exact ⟨_, h0, hA⟩
        · rw [hs, cond_true] at hA
          exact ⟨_, sound_seen h0, hA⟩

def noG : Globs := fun _ => none

variable {B : Bs} {E : Env} {U : Nat} {s : St} {Q : Post}

theorem Tri.seq_region {id : Nat} {ops : Array Oper} {draw : Bool} {d : Code} (hints : List (Nat × AV)) (ms : Option (List Nat)) (kf km : List Nat) (C : Prop) (s' : St) (U' : Nat) (h : runK B hints U ops ms kf km s = some (C, s')) (hd : ms.isSome = draw)
    (hU : Nat.ble (U + 16 * ops.size) U' = true) (hC : C) (hq : Tri B E d U' s' Q) : Tri B E (.seq (.region id ops draw) d) U s Q :=
  Tri.seq (Tri.region (Q := thenP B E d Q) h hd hU hC hq)

theorem Tri.region' {id : Nat} {ops : Array Oper} {draw : Bool} (hints : List (Nat × AV)) (ms : Option (List Nat)) (kf km : List Nat) (C : Prop) (s' : St) (U' : Nat) (h : runK B hints U ops ms kf km s = some (C, s')) (hd : ms.isSome = draw)
    (hU : Nat.ble (U + 16 * ops.size) U' = true) (hC : C) (hq : Q .normal U' s') : Tri B E (.region id ops draw) U s Q :=
  Tri.region h hd hU hC hq

/-- The same, told shortly. -/
theorem sr {id : Nat} {ops : Array Oper} {draw : Bool} {d : Code} (hints : List (Nat × AV)) (ms : Option (List Nat)) (kf km : List Nat) (C : Prop) (s' : St) (U' : Nat) (hC : C) (hq : Tri B E d U' s' Q)
    (h : runK B hints U ops ms kf km s = some (C, s') := by kernel_rfl) (hd : ms.isSome = draw := by rfl) (hU : Nat.ble (U + 16 * ops.size) U' = true := by kernel_rfl) : Tri B E (.seq (.region id ops draw) d) U s Q :=
  Tri.seq_region hints ms kf km C s' U' h hd hU hC hq
theorem rr {id : Nat} {ops : Array Oper} {draw : Bool} (hints : List (Nat × AV)) (ms : Option (List Nat)) (kf km : List Nat) (C : Prop) (s' : St) (U' : Nat) (hC : C) (hq : Q .normal U' s')
    (h : runK B hints U ops ms kf km s = some (C, s') := by kernel_rfl) (hd : ms.isSome = draw := by rfl) (hU : Nat.ble (U + 16 * ops.size) U' = true := by kernel_rfl) : Tri B E (.region id ops draw) U s Q :=
  Tri.region' hints ms kf km C s' U' h hd hU hC hq
abbrev qp (b o : Nat) : AV := .sc (.p b o)
abbrev qb (x : Bool) : AV := .sc (.b x)
abbrev qi (x : Int) : AV := .sc (.i .i64 x)
abbrev qr (xs : List Int) : AV := .sc (.ro .u8 xs)

def countP (U0 n k : Nat) (st' : St) (J' : Prop) (Q : Post) : Post
  | .normal, U, s => k < n ∧ J' ∧ Sub U s U0 st'
  | e, U, s => Q e U s

theorem Tri.count {α : Type} {c : Code} (U0 : Nat) (n : Nat) (f : Nat → α → α) (x0 : α) (J : Nat → α → Prop) (st : Nat → α → St) (hJ : J 0 x0) (h0 : Sub U s U0 (st 0 x0))
    (round : ∀ k x, k ≤ n → x = itr f k x0 → J k x → Tri B E c U0 (st k x) (countP U0 n k (st (k + 1) (f k x)) (J (k + 1) (f k x)) Q)) : Tri B E (.loop c) U s Q := by
  refine Tri.loop (U0 := U0) (fun k => n - k) (fun k => k ≤ n ∧ J k (itr f k x0)) (fun k => st k (itr f k x0)) 0 ⟨Nat.zero_le _, by show J 0 (itr f 0 x0); rw [itr_zero]; exact hJ⟩ (by show Sub U s U0 (st 0 (itr f 0 x0)); rw [itr_zero]; exact h0) ?_
  rintro k ⟨h1, h2⟩
  refine (round k _ h1 rfl h2).mono ?_
  intro e U' s' hq
  cases e with
  | normal =>
    obtain ⟨q1, q2, q3⟩ := hq
    exact ⟨k + 1, (by show n - (k + 1) < n - k; omega), ⟨by omega, by show J (k + 1) (itr f (k + 1) x0); rw [itr_succ]; exact q2⟩, by show Sub _ _ U0 (st (k + 1) (itr f (k + 1) x0)); rw [itr_succ]; exact q3⟩
  | exit id => exact hq
  | goto l => exact hq
  | ret => exact hq
  | panic ch => exact hq
  | outgrown => exact hq

/-- The first k below n at which it is so; n, if there is none. -/
def fstB (S : Nat → Bool) : Nat → Nat
  | 0 => 0
  | n + 1 => bif Nat.blt (fstB S n) n then fstB S n else bif S n then n else n + 1

theorem blt_true {k n : Nat} (h : k < n) : Nat.blt k n = true := by rw [Nat.blt_eq]; exact h
theorem blt_self (n : Nat) : Nat.blt n n = false := by
  cases h : Nat.blt n n
  · rfl
  · rw [Nat.blt_eq] at h
    exact absurd h (Nat.lt_irrefl n)

theorem fst_none {S : Nat → Bool} : ∀ {n : Nat}, (∀ j, j < n → S j = false) → fstB S n = n
  | 0, _ => rfl
  | n + 1, h => by
    rw [fstB, fst_none (fun j hj => h j (by omega)), blt_self, h n (by omega)]
    rfl

theorem fst_found {S : Nat → Bool} {k : Nat} : ∀ {n : Nat}, k < n → (∀ j, j < k → S j = false) → S k = true → fstB S n = k
  | 0, h, _, _ => absurd h (by omega)
  | n + 1, h, hl, hk => by
    by_cases hn : k < n
    · rw [fstB, fst_found hn hl hk, blt_true hn]; rfl
    · have e : k = n := by omega
      subst e
      rw [fstB, fst_none hl, blt_self, hk]; rfl

theorem fst_le (S : Nat → Bool) : ∀ n, fstB S n ≤ n
  | 0 => Nat.le_refl _
  | n + 1 => by
    rw [fstB]
    cases h : Nat.blt (fstB S n) n
    · cases S n <;> simp
    · have := fst_le S n; simp only [cond_true]; omega

theorem below_succ {S : Nat → Bool} {k : Nat} (h : ∀ j, j < k → S j = false) (hk : S k = false) : ∀ j, j < k + 1 → S j = false := by
  intro j hj
  by_cases e : j = k
  · subst e; exact hk
  · exact h j (by omega)

theorem blkP_normal {id : Nat} (h : Q .normal U s) : blkP id Q .normal U s := h
theorem thenP_ret {c : Code} (h : Q .ret U s) : thenP B E c Q .ret U s := h
theorem blkP_ret {id : Nat} (h : Q .ret U s) : blkP id Q .ret U s := h
theorem countP_ret {U0 n k : Nat} {st' : St} {J' : Prop} (h : Q .ret U s) : countP U0 n k st' J' Q .ret U s := h
theorem joinP_ret {Um : Nat} {m : St} (h : Q .ret U s) : joinP Um m Q .ret U s := h

/-- A nil slice is a slice of a block of nothing. -/
theorem Sub.openNil {fr : Fr} {M : Mem} {U U' : Nat} (t b es : Nat) (k : IntKind) (cap : Option Nat) (hcap : cap = none ∨ cap = some 0) (hb : U ≤ b) (hb' : b < U') (ht : look t fr = some (.sc .nils)) (hM : look b M = none) :
    Sub U (fr, M) U' (put1 t (.sc (.sl b 0 0 es cap)) fr, put1 b (.ints k 0 []) M) := by
  apply Sub.of1
  rintro E κ n a w ⟨σ, h1, h2, h3, h4⟩
  refine ⟨fun m => if m = b then .nil else σ m, ?_, fun m hm => ?_, fun j hj => ?_, by omega⟩
  · have hx : Ext σ (fun m => if m = b then .nil else σ m) := by
      intro m hm
      have : m ≠ b := fun e => hm (by rw [e]; exact h2 b hb)
      simp only [if_neg this]
    refine { val := fun t' v hv => ?_, defers := h1.defers, tmps := h1.tmps, blk := fun c k' hc => ?_, inj := fun c d x y L L' hc hd hL hL' hg => ?_, old := h1.old, size := h1.size, olds := h1.olds, os := h1.os, tape := h1.tape, output := h1.output }
    · simp only [look_put1] at hv
      split at hv
      · rename_i e
        subst e
        injection hv with hv
        subst hv
        obtain ⟨V, q1, q2⟩ := h1.val _ _ ht
        exact ⟨V, q1, .inl ⟨rfl, hcap, none, q2⟩⟩
      · obtain ⟨V, q1, q2⟩ := h1.val _ _ hv
        exact ⟨V, q1, q2.ext hx⟩
    · simp only [look_put1] at hc
      split at hc
      · rename_i e
        subst e
        injection hc with hc
        subst hc
        simp only [if_true]
        exact ⟨rfl, rfl⟩
      · rename_i e
        simp only [if_neg e]
        have := h1.blk c k' hc
        revert this
        cases σ c with
        | unset => intro h; exact h
        | nil => intro h; exact h
        | «at» L =>
          rintro ⟨g1, arr, elem, lo, hi, p1, p2, p3, p4, p5, p6⟩
          exact ⟨g1, arr, elem, lo, hi, p1, p2, p3, p4, p5, fun j s hs => let ⟨v, q1, q2⟩ := p6 j s hs; ⟨v, q1, q2.ext hx⟩⟩
    · simp only [look_put1] at hc hd
      split at hc
      · rename_i e
        simp only [if_pos e] at hL
        cases hL
      · rename_i e
        simp only [if_neg e] at hL
        split at hd
        · rename_i e'
          simp only [if_pos e'] at hL'
          cases hL'
        · rename_i e'
          simp only [if_neg e'] at hL'
          exact h1.inj c d x y L L' hc hd hL hL' hg
  · have : m ≠ b := by omega
    simp only [if_neg this]
    exact h2 m (by omega)
  · have : j ≠ b := by omega
    simp only [if_neg this]
    exact h3 j hj

/-- What no one writes to any more is only read from now on. -/
theorem Sub.freeze {fr : Fr} {M : Mem} {U : Nat} (t b off len n : Nat) (cap : Option Nat) (k : IntKind) (xs : List Int) (ht : look t fr = some (.sc (.sl b off len 1 cap))) (hM : look b M = some (.ints k n xs)) (hle : off + len ≤ n) :
    Sub U (fr, M) U (put1 t (.sc (.ro k (part1 xs n off len))) fr, drop1 b M) := by
  rintro E n' a w ⟨E1, hg, σ, h1, h2, h3, h4⟩
  have hB := h1.blk b _ hM
  have hgood : xs.length = n := blk_good h1.toMemR hM
  have hlen : ((xs.drop off).take len).length = len := by simp; omega
  have less : ∀ c k', look c (drop1 b M) = some k' → c ≠ b ∧ look c M = some k' := by
    intro c k' hc
    rw [look_drop1] at hc
    split at hc
    · cases hc
    · rename_i e; exact ⟨e, hc⟩
  cases hL : σ b with
  | unset => rw [hL] at hB; exact hB.elim
  | nil =>
    rw [hL] at hB
    have hn : n = 0 := hB.1
    refine ⟨E1, hg, σ, ?_, h2, h3, h4⟩
    refine { val := fun t' v hv => ?_, defers := h1.defers, tmps := h1.tmps, toMemR := MemR.less h1.toMemR fun c k' hc => (less c k' hc).2 }
    simp only [look_put1] at hv
    split at hv
    · rename_i e
      subst e
      injection hv with hv
      subst hv
      obtain ⟨V, q1, q2⟩ := h1.val _ _ ht
      refine ⟨V, q1, ?_⟩
      show RoR E1 k (part1 xs n off len) V
      rw [part1_eq hgood]
      rcases q2 with ⟨e1, _, A, rfl⟩ | ⟨L, c, e1, _⟩
      · subst e1
        exact ⟨A, 0, by simp, by simp, by simp⟩
      · rw [hL] at e1; cases e1
    · exact h1.val _ _ hv
  | «at» L =>
    rw [hL] at hB
    obtain ⟨g1, arr, elem, lo, hi, p1, p2, p3, p4, p5, p6⟩ := hB
    have hinj : ∀ c k' L', c ≠ b → look c M = some k' → σ c = .at L' → L'.g ≠ L.g := fun c k' L' hne hc hL' he => hne (h1.inj c b k' _ L' L hc hM hL' hL he)
    let E2 : Env := { P := E1.P, w0 := w, old := fun g => E1.old g ∨ g = L.g, fz := fun g => E1.fz g ∨ g = L.g, sub := fun g h => h.elim (fun h => .inl (E1.sub g h)) .inr, kp := E1.kp }
    have gr : Grow E1 E2 :=
      { P := rfl, old := fun g h => .inl h, fz := fun g h => .inl h, w0 := fun g h => h1.old g h
        new := fun g h => by
          rcases h with h | h
          · exact .inl h
          · subst h; exact .inr p4
        size := h1.size, os := h1.os, tape := h1.tape, output := h1.output }
    refine ⟨E2, hg.trans gr, σ, ?_, h2, h3, h4⟩
    refine { val := fun t' v hv => ?_, defers := h1.defers, tmps := h1.tmps, blk := fun c k' hc => ?_, inj := fun c d x y L1 L2 hc hd => h1.inj c d x y L1 L2 (less c x hc).2 (less d y hd).2, old := fun _ _ => rfl, size := Nat.le_refl _, olds := fun g hg => ?_, os := rfl, tape := rfl, output := rfl }
    · simp only [look_put1] at hv
      split at hv
      · rename_i e
        subst e
        injection hv with hv
        subst hv
        obtain ⟨V, q1, q2⟩ := h1.val _ _ ht
        refine ⟨V, q1, ?_⟩
        show RoR E2 k (part1 xs n off len) V
        rw [part1_eq hgood]
        rcases q2 with ⟨e1, _, A, rfl⟩ | ⟨L', c, e1, rfl, e2, e3, e4⟩
        · subst e1
          exact ⟨A, 0, by simp, by simp, by simp⟩
        · rw [hL] at e1
          injection e1 with e1
          subst e1
          refine ⟨some ⟨L.g, L.β + off, none⟩, c, by rw [hlen], by rw [hlen]; exact e2, fun _ => ⟨_, rfl, .inr rfl, fun j hj => ?_⟩⟩
          rw [hlen] at hj
          have hget : xs[off + j]? = some (xs.getD (off + j) 0) := by
            rw [List.getD_eq_getElem?_getD, List.getElem?_eq_getElem (by omega)]; rfl
          obtain ⟨v, e5, e6⟩ := p6 (off + j) (.i k (xs.getD (off + j) 0)) (by show (xs[off + j]?).map _ = _; rw [hget]; rfl)
          simp only [ScR] at e6
          subst e6
          have : ((xs.drop off).take len).getD j 0 = xs.getD (off + j) 0 := by
            simp [List.getD_eq_getElem?_getD, List.getElem?_take, List.getElem?_drop, hj]
          rw [this, addr_add]
          show w.cell? _ = _
          have hlt : L.β + off + j < L.sz := by have := p3; simp only [Blk.len] at this; omega
          have := p5.1 (L.β + off + j) hlt
          simp [World.cell?, p1, this]
          rw [Nat.add_assoc]
          exact e5
      · obtain ⟨V, q1, q2⟩ := h1.val _ _ hv
        exact ⟨V, q1, q2.grow gr⟩
    · obtain ⟨hne, hc'⟩ := less c k' hc
      refine Blk.grow gr (fun l hl hz => ?_) (h1.blk c k' hc')
      rcases hz with hz | hz
      · have hB' := h1.blk c k' hc'
        rw [hl] at hB'
        obtain ⟨_, _, _, _, _, _, _, _, q4, _⟩ := hB'
        exact q4 hz
      · exact hinj c k' l hne hc' hl hz
    · rcases hg with hg | hg
      · exact Nat.lt_of_lt_of_le (h1.olds g hg) h1.size
      · subst hg; exact heap_lt p1

theorem countP_normal {U0 n k : Nat} {st' : St} {J' : Prop} (h1 : k < n) (h2 : J') (h3 : Sub U s U0 st') : countP U0 n k st' J' Q .normal U s := ⟨h1, h2, h3⟩

theorem Tri.split {c : Code} (x : Bool) (ht : x = true → Tri B E c U s Q) (hf : x = false → Tri B E c U s Q) : Tri B E c U s Q := by
  cases x
  · exact hf rfl
  · exact ht rfl

theorem endP.ret {P : Program} {rs : List ResultVar} {m : Nat} {r : Ret} (ns : Ren) (C : Prop) (h1 : (renOk ns r.bs.length && ren16 ns m) = true) (h3 : finish P rs ns r.bs.length s = some (C, r)) (h4 : C) : endP P rs m r .ret U s := ⟨ns, C, h1, h3, h4⟩
theorem endP.conv {P : Program} {rs : List ResultVar} {m : Nat} {r r' : Ret} (h : r = r') (h2 : endP P rs m r' .ret U s) : endP P rs m r .ret U s := h ▸ h2

/-- From the walk of a body. -/
theorem Known.walk {f : FuncId} {fn : Func} {c : Code} {z : Sig1} (hok : B.Ok) (hf : B.P.funcs[f]? = some fn) (hb : fn.body = some c) (hn : (fn.name != "runtime.NumGoroutine") = true) (hnt : fn.ntmps = B.n) (hnb : z.nb ≤ 16) (hm : z.m ≤ 16)
    (h : ∀ (E : Env) (args : List AV) (ks : List Blk) (C : Prop) (r : Ret), z.spec args ks = some (C, r) → C → lens args → args.length ≤ B.n ∧ Tri B E c 16 ((List.range args.length).zip args, zipN 0 ks) (endP B.P fn.results.toList z.m r)) : Known B.P B.G f z :=
  ⟨hnb, PureAt.of_walk hok hf hb hn hnt hm h⟩

/-- The same answers under another name. -/
theorem Known.same {P : Program} {G : Globs} {f : FuncId} {z z' : Sig1} (h : Known P G f z) (hnb : z'.nb ≤ 16) (hm : z'.m = z.m) (hs : ∀ vs ks C r, z'.spec vs ks = some (C, r) → C → ∃ C', z.spec vs ks = some (C', r) ∧ C') : Known P G f z' :=
  ⟨hnb, fun E w args ks Vs C r h1 h2 h3 h4 h5 h6 h7 h8 => by
    obtain ⟨C', h9, h10⟩ := hs args ks C r h7 h8
    have := h.pure E w args ks Vs C' r h1 h2 (h3.trans hm) (fun j hj => h4 j (by omega)) h5 h6 h9 h10
    rw [hm]
    exact this⟩

/-- One behaviour, told in two cases. -/
def orS (s1 s2 : List AV → List Blk → Option (Prop × Ret)) : List AV → List Blk → Option (Prop × Ret) := fun a b => match s1 a b with
  | some x => some x
  | none => s2 a b

theorem Known.or {P : Program} {G : Globs} {f : FuncId} {m nb : Nat} {s1 s2 : List AV → List Blk → Option (Prop × Ret)} (h1 : Known P G f ⟨m, nb, s1⟩) (h2 : Known P G f ⟨m, nb, s2⟩) : Known P G f ⟨m, nb, orS s1 s2⟩ where
  nb := h1.nb
  pure := fun E w args ks Vs C r hP hG hk hkp hM ha h hC => by
    simp only [orS] at h
    split at h
    · rename_i x hx; cases h; exact h1.pure E w args ks Vs C r hP hG hk hkp hM ha hx hC
    · exact h2.pure E w args ks Vs C r hP hG hk hkp hM ha h hC

theorem eq_true_i {a b : Int} (h : (a == b) = true) : a = b := by simpa using h
theorem eq_false_i {a b : Int} (h : (a == b) = false) : a ≠ b := by simpa using h
theorem ne_true_i {a b : Int} (h : (a != b) = true) : a ≠ b := by simpa using h
theorem ne_false_i {a b : Int} (h : (a != b) = false) : a = b := by simpa using h

/-! ### small numbers -/
theorem wrap_small {x : Int} (h : -9223372036854775808 ≤ x) (h' : x < 9223372036854775808) : IntKind.wrap .i64 x = x := by
  unfold IntKind.wrap
  simp only [IntKind.signed, IntKind.bits, if_true, Bool.true_and]
  split <;> rename_i hc <;> simp at hc ⊢ <;> omega

theorem iAdd_nat {a b : Nat} (h : a + b < 9223372036854775808) : iAdd .i64 (a : Int) (b : Int) = ((a + b : Nat) : Int) := by
  unfold iAdd; rw [wrap_small (by omega) (by omega)]; omega
theorem iMul_nat {a b : Nat} (h : a * b < 9223372036854775808) : iMul .i64 (a : Int) (b : Int) = ((a * b : Nat) : Int) := by
  unfold iMul
  have : (a : Int) * (b : Int) = ((a * b : Nat) : Int) := by simp
  rw [this, wrap_small (by omega) (by omega)]
theorem iSub_nat {a b : Nat} (h : b ≤ a) (h' : a < 9223372036854775808) : iSub .i64 (a : Int) (b : Int) = ((a - b : Nat) : Int) := by
  unfold iSub; rw [wrap_small (by omega) (by omega)]; omega
theorem iQuo_nat {a b : Nat} (h : a < 9223372036854775808) : iQuo .i64 (a : Int) (b : Int) = ((a / b : Nat) : Int) := by
  unfold iQuo
  have : Int.tdiv (a : Int) (b : Int) = ((a / b : Nat) : Int) := by rfl
  have h2 : a / b ≤ a := Nat.div_le_self a b
  generalize a / b = d at this h2
  rw [this, wrap_small (by omega) (by omega)]
theorem iRem_nat {a b : Nat} : iRem (a : Int) (b : Int) = ((a % b : Nat) : Int) := rfl

/-- A row's cells are as many as it says. -/
theorem Tri.len {B : Bs} {E : Env} {c : Code} {U : Nat} {s : St} {Q : Post} (b : Nat) {k : IntKind} {n : Nat} {xs : List Int} (h : look b s.2 = some (.ints k n xs)) (q : xs.length = n → Tri B E c U s Q) : Tri B E c U s Q := by
  intro hB a w g
  have g0 := g
  obtain ⟨E', hg', σ, h1, h2⟩ := g
  have hb := h1.toMemR.blk b _ h
  have hg : xs.length = n := by
    cases hs : σ b with
    | unset => rw [hs] at hb; cases hb
    | nil => rw [hs] at hb; exact hb.2
    | «at» L => rw [hs] at hb; exact hb.1
  exact q hg hB a w g0
theorem part1_le {xs : List Int} {n off len B : Nat} (h1 : len ≤ B) (h2 : xs.length ≤ B) : (part1 xs n off len).length ≤ B := by
  unfold part1
  cases Nat.beq len n && Nat.beq off 0
  · simp only [cond_false, List.length_take, List.length_drop]; omega
  · exact h2
theorem minI_nat (a b : Nat) : minI (a : Int) (b : Int) = ((min a b : Nat) : Int) := by unfold minI; split <;> omega
theorem iSub_dn0 {a : Nat} (h : a < 9223372036854775808) : iSub .i64 (a : Int) 1 = (a : Int) - 1 - ((0 : Nat) : Int) := by
  unfold iSub; rw [wrap_small (by omega) (by omega)]; omega
theorem iSub_dn {a k : Nat} (h : a < 9223372036854775808) (h' : k < 9223372036854775807) : iSub .i64 ((a : Int) - 1 - (k : Int)) 1 = (a : Int) - 1 - ((k + 1 : Nat) : Int) := by
  unfold iSub; rw [wrap_small (by omega) (by omega)]; omega
theorem dn_nat {a k : Nat} (h : k + 1 ≤ a) : (a : Int) - 1 - (k : Int) = ((a - 1 - k : Nat) : Int) := by omega

/-! ### the carry of two words -/
def add64 (x y c : Int) : Int := (x + y + c) % 18446744073709551616
def add64c (x y c : Int) : Int := (x + y + c) / 18446744073709551616

def specAdd64 : List AV → List Blk → Option (Prop × Ret)
  | [.sc (.i .u64 x), .sc (.i .u64 y), .sc (.i .u64 c)], [] => some (0 ≤ x ∧ 0 ≤ y ∧ 0 ≤ c ∧ c ≤ 1, ⟨.tup [.sc (.i .u64 (add64 x y c)), .sc (.i .u64 (add64c x y c))], []⟩)
  | _, _ => none

theorem known_add64 {P : Program} {G : Globs} {f : FuncId} {fn : Func} (hf : P.funcs[f]? = some fn) (hname : (fn.name == "runtime.NumGoroutine") = false)
    (hb : fn.body.isNone = true) (hn : Extern.findNext fn = none) (he : Extern.find fn = some add64Entry) : Known P G f ⟨0, 0, specAdd64⟩ := by
  refine ⟨by decide, ?_⟩
  · intro E w args ks Vs C r hP hG hks hkp hM hargs hsp hC
    simp only at hsp
    unfold specAdd64 at hsp
    split at hsp
    · rename_i x y c
      cases hsp
      refine .inr ⟨_, w, ?_, E, E.kp, .refl E, fun _ hj => absurd hj (by simp), ⟨#[.int .u64 (add64 x y c), .int .u64 (add64c x y c)], rfl, rfl, rfl, trivial⟩, hM⟩
      rw [run_callFunc_extern hf hname hb hn he]
      have hVs : Vs = #[.int .u64 x, .int .u64 y, .int .u64 c] := by
        obtain ⟨l⟩ := Vs
        match l, hargs with
        | [a, b, d], ⟨h1, h2, h3, _⟩ =>
          have e1 : a = .int .u64 x := h1
          have e2 : b = .int .u64 y := h2
          have e3 : d = .int .u64 c := h3
          subst e1 e2 e3
          rfl
      subst hVs
      obtain ⟨c1, c2, c3, c4⟩ := hC
      rw [run_add64 x y c c1 c2 c3 c4]
      rfl
    · cases hsp

/-! ### the borrow of two words -/
def sub64 (x y c : Int) : Int := (x - y - c) % 18446744073709551616
def sub64b (x y c : Int) : Int := if x < y + c then 1 else 0

def specSub64 : List AV → List Blk → Option (Prop × Ret)
  | [.sc (.i .u64 x), .sc (.i .u64 y), .sc (.i .u64 c)], [] => some ((0 ≤ x ∧ x < 18446744073709551616) ∧ (0 ≤ y ∧ y < 18446744073709551616) ∧ 0 ≤ c ∧ c ≤ 1, ⟨.tup [.sc (.i .u64 (sub64 x y c)), .sc (.i .u64 (sub64b x y c))], []⟩)
  | _, _ => none

theorem known_sub64 {P : Program} {G : Globs} {f : FuncId} {fn : Func} {e : Array Value → Sem Value} (hf : P.funcs[f]? = some fn) (hname : (fn.name == "runtime.NumGoroutine") = false)
    (hb : fn.body.isNone = true) (hn : Extern.findNext fn = none) (he : Extern.find fn = some e)
    (hrun : ∀ (x y : Nat) (w : World), (e #[.int .u64 x, .int .u64 y, .int .u64 (0 : Nat)]).run P w = .ok (.tuple #[.int .u64 (((x + 18446744073709551616 - y - 0) % 18446744073709551616 : Nat) : Int), .int .u64 ((if x < y + 0 then 1 else 0 : Nat) : Int)]) w ∧
      (e #[.int .u64 x, .int .u64 y, .int .u64 (1 : Nat)]).run P w = .ok (.tuple #[.int .u64 (((x + 18446744073709551616 - y - 1) % 18446744073709551616 : Nat) : Int), .int .u64 ((if x < y + 1 then 1 else 0 : Nat) : Int)]) w) : Known P G f ⟨0, 0, specSub64⟩ := by
  refine ⟨by decide, ?_⟩
  · intro E w args ks Vs C r hP hG hks hkp hM hargs hsp hC
    simp only at hsp
    unfold specSub64 at hsp
    split at hsp
    · rename_i x y c
      cases hsp
      refine .inr ⟨_, w, ?_, E, E.kp, .refl E, fun _ hj => absurd hj (by simp), ⟨#[.int .u64 (sub64 x y c), .int .u64 (sub64b x y c)], rfl, rfl, rfl, trivial⟩, hM⟩
      rw [run_callFunc_extern hf hname hb hn he]
      have hVs : Vs = #[.int .u64 x, .int .u64 y, .int .u64 c] := by
        obtain ⟨l⟩ := Vs
        match l, hargs with
        | [a, b, d], ⟨h1, h2, h3, _⟩ =>
          have e1 : a = .int .u64 x := h1
          have e2 : b = .int .u64 y := h2
          have e3 : d = .int .u64 c := h3
          subst e1 e2 e3
          rfl
      subst hVs
      obtain ⟨⟨c1, c2⟩, ⟨c3, c4⟩, c5, c6⟩ := hC
      obtain ⟨a, rfl⟩ := Int.eq_ofNat_of_zero_le c1
      obtain ⟨b, rfl⟩ := Int.eq_ofNat_of_zero_le c3
      have hc : c = ((0 : Nat) : Int) ∨ c = ((1 : Nat) : Int) := by omega
      have s1 : ∀ k : Nat, k ≤ 1 → (((a + 18446744073709551616 - b - k) % 18446744073709551616 : Nat) : Int) = sub64 a b k := by
        intro k hk
        unfold sub64
        omega
      have s2 : ∀ k : Nat, ((if a < b + k then 1 else 0 : Nat) : Int) = sub64b a b k := by
        intro k
        unfold sub64b
        split <;> split <;> omega
      rcases hc with rfl | rfl
      · rw [(hrun a b w).1, s1 0 (by decide), s2 0]
        rfl
      · rw [(hrun a b w).2, s1 1 (by decide), s2 1]
        rfl
    · cases hsp

end Go.Vm
