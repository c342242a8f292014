/- What printed walks stand on: tables of known functions, counted loops, small numbers. -/
import Derived.Test.YtclfmaifcelcpaaDoorVmR
set_option linter.unusedVariables false
set_option linter.unusedSimpArgs false
namespace Go.Vm
open Go

structure Sig1 where
  ps : List Pass
  nb : Nat
  spec : List AV → Option (Prop × Ret)

structure Known (P : Program) (G : Globs) (f : FuncId) (z : Sig1) : Prop where
  nb : z.nb ≤ 16
  own : ∀ vs C r, z.spec vs = some (C, r) → r.own z.nb = true
  pure : PureAt P G f z.spec

/-- However it is handed over. -/
theorem Known.ps {P : Program} {G : Globs} {f : FuncId} {ps ps' : List Pass} {nb : Nat} {spec : List AV → Option (Prop × Ret)} (h : Known P G f ⟨ps, nb, spec⟩) : Known P G f ⟨ps', nb, spec⟩ := ⟨h.nb, h.own, h.pure⟩

abbrev Lib := List (FuncId × Sig1)

def tabOf (l : Lib) : Tab := fun f args nm => match look f l with
  | some z => callD z.ps z.nb z.spec args nm
  | none => none

def allKnown (P : Program) (G : Globs) : Lib → Prop
  | [] => True
  | (f, z) :: r => Known P G f z ∧ allKnown P G r

theorem allKnown_at {P : Program} {G : Globs} {f : FuncId} {z : Sig1} : ∀ {l : Lib}, allKnown P G l → (f, z) ∈ l → Known P G f z
  | (g, y) :: r, h, hm => by
    rcases List.mem_cons.1 hm with e | e
    · injection e with e1 e2
      subst e1 e2
      exact h.1
    · exact allKnown_at h.2 e

theorem tabOk {P : Program} {G : Globs} {l : Lib} (h : allKnown P G l) : TabOk P G (tabOf l) := by
  intro f args nm A hA
  unfold tabOf at hA
  split at hA
  · rename_i z hz
    have hk := allKnown_at h (look_mem hz)
    exact ⟨callD z.ps z.nb z.spec, sound_of_pure hk.nb hk.own hk.pure, hA⟩
  · cases hA

def noG : Globs := fun _ => none

variable {B : Bs} {E : Env} {U : Nat} {s : St} {Q : Post}

theorem Tri.seq_region {id : Nat} {ops : Array Oper} {draw : Bool} {d : Code} (hints : List (Nat × Sc)) (ms : Option (List Nat)) (kf km : List Nat) (C : Prop) (s' : St) (U' : Nat) (h : runK B hints U ops ms kf km s = some (C, s')) (hd : ms.isSome = draw)
    (hU : Nat.ble (U + 16 * ops.size) U' = true) (hC : C) (hq : Tri B E d U' s' Q) : Tri B E (.seq (.region id ops draw) d) U s Q :=
  Tri.seq (Tri.region (Q := thenP B E d Q) h hd hU hC hq)

theorem Tri.region' {id : Nat} {ops : Array Oper} {draw : Bool} (hints : List (Nat × Sc)) (ms : Option (List Nat)) (kf km : List Nat) (C : Prop) (s' : St) (U' : Nat) (h : runK B hints U ops ms kf km s = some (C, s')) (hd : ms.isSome = draw)
    (hU : Nat.ble (U + 16 * ops.size) U' = true) (hC : C) (hq : Q .normal U' s') : Tri B E (.region id ops draw) U s Q :=
  Tri.region h hd hU hC hq

def countP (U0 n k : Nat) (st' : St) (J' : Prop) (Q : Post) : Post
  | .normal, U, s => k < n ∧ J' ∧ Sub U s U0 st'
  | e, U, s => Q e U s

theorem Tri.count {α : Type} {c : Code} (U0 : Nat) (n : Nat) (f : Nat → α → α) (x0 : α) (J : Nat → α → Prop) (st : Nat → α → St) (hJ : J 0 x0) (h0 : Sub U s U0 (st 0 x0))
    (round : ∀ k x, k ≤ n → x = itr f k x0 → J k x → Tri B E c U0 (st k x) (countP U0 n k (st (k + 1) (f k x)) (J (k + 1) (f k x)) Q)) : Tri B E (.loop c) U s Q := by
  refine Tri.loop (U0 := U0) (fun k => n - k) (fun k => k ≤ n ∧ J k (itr f k x0)) (fun k => st k (itr f k x0)) 0 ⟨Nat.zero_le _, by show J 0 (itr f 0 x0); rw [itr_zero]; exact hJ⟩ (by show Sub U s U0 (st 0 (itr f 0 x0)); rw [itr_zero]; exact h0) ?_
  rintro k ⟨h1, h2⟩
  refine (round k _ h1 rfl h2).mono ?_
  intro e U' s' hq
  cases e with
  | normal =>
    obtain ⟨q1, q2, q3⟩ := hq
    exact ⟨k + 1, (by show n - (k + 1) < n - k; omega), ⟨by omega, by show J (k + 1) (itr f (k + 1) x0); rw [itr_succ]; exact q2⟩, by show Sub _ _ U0 (st (k + 1) (itr f (k + 1) x0)); rw [itr_succ]; exact q3⟩
  | exit id => exact hq
  | goto l => exact hq
  | ret => exact hq
  | panic ch => exact hq
  | outgrown => exact hq

/-- The first k below n at which it is so; n, if there is none. -/
def fstB (S : Nat → Bool) : Nat → Nat
  | 0 => 0
  | n + 1 => bif Nat.blt (fstB S n) n then fstB S n else bif S n then n else n + 1

theorem blt_true {k n : Nat} (h : k < n) : Nat.blt k n = true := by rw [Nat.blt_eq]; exact h
theorem blt_self (n : Nat) : Nat.blt n n = false := by
  cases h : Nat.blt n n
  · rfl
  · rw [Nat.blt_eq] at h
    exact absurd h (Nat.lt_irrefl n)

theorem fst_none {S : Nat → Bool} : ∀ {n : Nat}, (∀ j, j < n → S j = false) → fstB S n = n
  | 0, _ => rfl
  | n + 1, h => by
    rw [fstB, fst_none (fun j hj => h j (by omega)), blt_self, h n (by omega)]
    rfl

theorem fst_found {S : Nat → Bool} {k : Nat} : ∀ {n : Nat}, k < n → (∀ j, j < k → S j = false) → S k = true → fstB S n = k
  | 0, h, _, _ => absurd h (by omega)
  | n + 1, h, hl, hk => by
    by_cases hn : k < n
    · rw [fstB, fst_found hn hl hk, blt_true hn]; rfl
    · have e : k = n := by omega
      subst e
      rw [fstB, fst_none hl, blt_self, hk]; rfl

theorem fst_le (S : Nat → Bool) : ∀ n, fstB S n ≤ n
  | 0 => Nat.le_refl _
  | n + 1 => by
    rw [fstB]
    cases h : Nat.blt (fstB S n) n
    · cases S n <;> simp
    · have := fst_le S n; simp only [cond_true]; omega

theorem below_succ {S : Nat → Bool} {k : Nat} (h : ∀ j, j < k → S j = false) (hk : S k = false) : ∀ j, j < k + 1 → S j = false := by
  intro j hj
  by_cases e : j = k
  · subst e; exact hk
  · exact h j (by omega)

theorem blkP_normal {id : Nat} (h : Q .normal U s) : blkP id Q .normal U s := h
theorem thenP_ret {c : Code} (h : Q .ret U s) : thenP B E c Q .ret U s := h
theorem blkP_ret {id : Nat} (h : Q .ret U s) : blkP id Q .ret U s := h
theorem countP_ret {U0 n k : Nat} {st' : St} {J' : Prop} (h : Q .ret U s) : countP U0 n k st' J' Q .ret U s := h
theorem joinP_ret {Um : Nat} {m : St} (h : Q .ret U s) : joinP Um m Q .ret U s := h

/-- A nil slice is a slice of a block of nothing. -/
theorem Sub.openNil {fr : Fr} {M : Mem} {U U' : Nat} (t b es : Nat) (k : IntKind) (cap : Option Nat) (hcap : cap = none ∨ cap = some 0) (hb : U ≤ b) (hb' : b < U') (ht : look t fr = some (.sc .nils)) (hM : look b M = none) :
    Sub U (fr, M) U' (put1 t (.sc (.sl b 0 0 es cap)) fr, put1 b (.ints k 0 []) M) := by
  rintro E n a w ⟨σ, h1, h2⟩
  refine ⟨fun m => if m = b then .nil else σ m, ?_, fun m hm => ?_⟩
  · have hx : Ext σ (fun m => if m = b then .nil else σ m) := by
      intro m hm
      have : m ≠ b := fun e => hm (by rw [e]; exact h2 b hb)
      simp only [if_neg this]
    refine { val := fun t' v hv => ?_, defers := h1.defers, tmps := h1.tmps, blk := fun c k' hc => ?_, inj := fun c d x y L L' hc hd hL hL' hg => ?_, old := h1.old, size := h1.size, olds := h1.olds, os := h1.os, tape := h1.tape, output := h1.output }
    · simp only [look_put1] at hv
      split at hv
      · rename_i e
        subst e
        injection hv with hv
        subst hv
        obtain ⟨V, q1, q2⟩ := h1.val _ _ ht
        exact ⟨V, q1, .inl ⟨rfl, hcap, none, q2⟩⟩
      · obtain ⟨V, q1, q2⟩ := h1.val _ _ hv
        exact ⟨V, q1, q2.ext hx⟩
    · simp only [look_put1] at hc
      split at hc
      · rename_i e
        subst e
        injection hc with hc
        subst hc
        simp only [if_true]
        exact ⟨rfl, rfl⟩
      · rename_i e
        simp only [if_neg e]
        have := h1.blk c k' hc
        revert this
        cases σ c with
        | unset => intro h; exact h
        | nil => intro h; exact h
        | «at» L =>
          rintro ⟨g1, arr, elem, lo, hi, p1, p2, p3, p4, p5, p6⟩
          exact ⟨g1, arr, elem, lo, hi, p1, p2, p3, p4, p5, fun j s hs => let ⟨v, q1, q2⟩ := p6 j s hs; ⟨v, q1, q2.ext hx⟩⟩
    · simp only [look_put1] at hc hd
      split at hc
      · rename_i e
        simp only [if_pos e] at hL
        cases hL
      · rename_i e
        simp only [if_neg e] at hL
        split at hd
        · rename_i e'
          simp only [if_pos e'] at hL'
          cases hL'
        · rename_i e'
          simp only [if_neg e'] at hL'
          exact h1.inj c d x y L L' hc hd hL hL' hg
  · have : m ≠ b := by omega
    simp only [if_neg this]
    exact h2 m (by omega)

theorem countP_normal {U0 n k : Nat} {st' : St} {J' : Prop} (h1 : k < n) (h2 : J') (h3 : Sub U s U0 st') : countP U0 n k st' J' Q .normal U s := ⟨h1, h2, h3⟩

theorem Tri.split {c : Code} (x : Bool) (ht : x = true → Tri B E c U s Q) (hf : x = false → Tri B E c U s Q) : Tri B E c U s Q := by
  cases x
  · exact hf rfl
  · exact ht rfl

theorem endP.ret {P : Program} {rs : List ResultVar} {r : Ret} (ns : Ren) (C : Prop) (h1 : renOk ns ns.length = true) (h2 : namesOk 0 ns = true) (h3 : finish P rs ns s = some (C, r)) (h4 : C) : endP P rs r .ret U s := ⟨ns, C, h1, h2, h3, h4⟩
theorem endP.conv {P : Program} {rs : List ResultVar} {r r' : Ret} (h : r = r') (h2 : endP P rs r' .ret U s) : endP P rs r .ret U s := h ▸ h2

/-- From the walk of a body. -/
theorem Known.walk {f : FuncId} {fn : Func} {c : Code} {z : Sig1} (hok : B.Ok) (hf : B.P.funcs[f]? = some fn) (hb : fn.body = some c) (hn : (fn.name != "runtime.NumGoroutine") = true) (hnt : fn.ntmps = B.n) (hnb : z.nb ≤ 16)
    (hown : ∀ vs C r, z.spec vs = some (C, r) → r.own z.nb = true)
    (h : ∀ (E : Env) (args : List AV) (C : Prop) (r : Ret), z.spec args = some (C, r) → C → lens args → args.length ≤ B.n ∧ Tri B E c 0 ((List.range args.length).zip args, []) (endP B.P fn.results.toList r)) : Known B.P B.G f z :=
  ⟨hnb, hown, PureAt.of_walk hok hf hb hn hnt h⟩

/-- The same answers under another name. -/
theorem Known.same {P : Program} {G : Globs} {f : FuncId} {z z' : Sig1} (h : Known P G f z) (hp : z'.nb = z.nb) (hs : ∀ vs C r, z'.spec vs = some (C, r) → C → ∃ C', z.spec vs = some (C', r) ∧ C') (hown : ∀ vs C r, z'.spec vs = some (C, r) → r.own z'.nb = true) : Known P G f z' :=
  ⟨hp ▸ h.nb, hown, fun E w args Vs C r h1 h2 h3 h4 h5 h6 => by
    obtain ⟨C', h7, h8⟩ := hs args C r h5 h6
    exact h.pure E w args Vs C' r h1 h2 h3 h4 h7 h8⟩

/-- One behaviour, told in two cases. -/
def orS (s1 s2 : List AV → Option (Prop × Ret)) : List AV → Option (Prop × Ret) := fun a => match s1 a with
  | some x => some x
  | none => s2 a

theorem Known.or {P : Program} {G : Globs} {f : FuncId} {ps : List Pass} {nb : Nat} {s1 s2 : List AV → Option (Prop × Ret)} (h1 : Known P G f ⟨ps, nb, s1⟩) (h2 : Known P G f ⟨ps, nb, s2⟩) : Known P G f ⟨ps, nb, orS s1 s2⟩ where
  nb := h1.nb
  own := fun vs C r h => by
    simp only [orS] at h
    split at h
    · rename_i x hx; cases h; exact h1.own vs C r hx
    · exact h2.own vs C r h
  pure := fun E w args Vs C r hP hG hM ha h hC => by
    simp only [orS] at h
    split at h
    · rename_i x hx; cases h; exact h1.pure E w args Vs C r hP hG hM ha hx hC
    · exact h2.pure E w args Vs C r hP hG hM ha h hC

theorem eq_true_i {a b : Int} (h : (a == b) = true) : a = b := by simpa using h
theorem eq_false_i {a b : Int} (h : (a == b) = false) : a ≠ b := by simpa using h
theorem ne_true_i {a b : Int} (h : (a != b) = true) : a ≠ b := by simpa using h
theorem ne_false_i {a b : Int} (h : (a != b) = false) : a = b := by simpa using h

/-! ### small numbers -/
theorem wrap_small {x : Int} (h : -9223372036854775808 ≤ x) (h' : x < 9223372036854775808) : IntKind.wrap .i64 x = x := by
  unfold IntKind.wrap
  simp only [IntKind.signed, IntKind.bits, if_true, Bool.true_and]
  split <;> rename_i hc <;> simp at hc ⊢ <;> omega

theorem iAdd_nat {a b : Nat} (h : a + b < 9223372036854775808) : iAdd .i64 (a : Int) (b : Int) = ((a + b : Nat) : Int) := by
  unfold iAdd; rw [wrap_small (by omega) (by omega)]; omega
theorem iMul_nat {a b : Nat} (h : a * b < 9223372036854775808) : iMul .i64 (a : Int) (b : Int) = ((a * b : Nat) : Int) := by
  unfold iMul
  have : (a : Int) * (b : Int) = ((a * b : Nat) : Int) := by simp
  rw [this, wrap_small (by omega) (by omega)]
theorem iSub_nat {a b : Nat} (h : b ≤ a) (h' : a < 9223372036854775808) : iSub .i64 (a : Int) (b : Int) = ((a - b : Nat) : Int) := by
  unfold iSub; rw [wrap_small (by omega) (by omega)]; omega
theorem iQuo_nat {a b : Nat} (h : a < 9223372036854775808) : iQuo .i64 (a : Int) (b : Int) = ((a / b : Nat) : Int) := by
  unfold iQuo
  have : Int.tdiv (a : Int) (b : Int) = ((a / b : Nat) : Int) := by rfl
  have h2 : a / b ≤ a := Nat.div_le_self a b
  generalize a / b = d at this h2
  rw [this, wrap_small (by omega) (by omega)]
theorem iRem_nat {a b : Nat} : iRem (a : Int) (b : Int) = ((a % b : Nat) : Int) := rfl

/-- A row's cells are as many as it says. -/
theorem Tri.len {B : Bs} {E : Env} {c : Code} {U : Nat} {s : St} {Q : Post} (b : Nat) {k : IntKind} {n : Nat} {xs : List Int} (h : look b s.2 = some (.ints k n xs)) (q : xs.length = n → Tri B E c U s Q) : Tri B E c U s Q := by
  intro hB a w g
  obtain ⟨σ, h1, h2⟩ := g
  have hb := h1.toMemR.blk b _ h
  have hg : xs.length = n := by
    cases hs : σ b with
    | unset => rw [hs] at hb; cases hb
    | nil => rw [hs] at hb; exact hb.2
    | «at» L => rw [hs] at hb; exact hb.1
  exact q hg hB a w ⟨σ, h1, h2⟩
theorem part1_le {xs : List Int} {n off len B : Nat} (h1 : len ≤ B) (h2 : xs.length ≤ B) : (part1 xs n off len).length ≤ B := by
  unfold part1
  cases Nat.beq len n && Nat.beq off 0
  · simp only [cond_false, List.length_take, List.length_drop]; omega
  · exact h2
theorem minI_nat (a b : Nat) : minI (a : Int) (b : Int) = ((min a b : Nat) : Int) := by unfold minI; split <;> omega
theorem iSub_dn0 {a : Nat} (h : a < 9223372036854775808) : iSub .i64 (a : Int) 1 = (a : Int) - 1 - ((0 : Nat) : Int) := by
  unfold iSub; rw [wrap_small (by omega) (by omega)]; omega
theorem iSub_dn {a k : Nat} (h : a < 9223372036854775808) (h' : k < 9223372036854775807) : iSub .i64 ((a : Int) - 1 - (k : Int)) 1 = (a : Int) - 1 - ((k + 1 : Nat) : Int) := by
  unfold iSub; rw [wrap_small (by omega) (by omega)]; omega
theorem dn_nat {a k : Nat} (h : k + 1 ≤ a) : (a : Int) - 1 - (k : Int) = ((a - 1 - k : Nat) : Int) := by omega

/-! ### the carry of two words -/
def add64 (x y c : Int) : Int := (x + y + c) % 18446744073709551616
def add64c (x y c : Int) : Int := (x + y + c) / 18446744073709551616

def specAdd64 : List AV → Option (Prop × Ret)
  | [.sc (.i .u64 x), .sc (.i .u64 y), .sc (.i .u64 c)] => some (0 ≤ x ∧ 0 ≤ y ∧ 0 ≤ c ∧ c ≤ 1, ⟨.tup [.sc (.i .u64 (add64 x y c)), .sc (.i .u64 (add64c x y c))], []⟩)
  | _ => none

theorem known_add64 {P : Program} {G : Globs} {f : FuncId} {fn : Func} (hf : P.funcs[f]? = some fn) (hname : (fn.name == "runtime.NumGoroutine") = false)
    (hb : fn.body.isNone = true) (hn : Extern.findNext fn = none) (he : Extern.find fn = some add64Entry) : Known P G f ⟨[.val, .val, .val], 0, specAdd64⟩ := by
  refine ⟨by decide, ?_, ?_⟩
  · intro vs C r h
    simp only at h
    unfold specAdd64 at h
    split at h
    · cases h; rfl
    · cases h
  · intro E w args Vs C r hP hG hM hargs hsp hC
    simp only at hsp
    unfold specAdd64 at hsp
    split at hsp
    · rename_i x y c
      cases hsp
      refine .inr ⟨_, w, ?_, fun _ => .unset, ⟨#[.int .u64 (add64 x y c), .int .u64 (add64c x y c)], rfl, rfl, rfl, trivial⟩, hM⟩
      rw [run_callFunc_extern hf hname hb hn he]
      have hVs : Vs = #[.int .u64 x, .int .u64 y, .int .u64 c] := by
        obtain ⟨l⟩ := Vs
        match l, hargs with
        | [a, b, d], ⟨h1, h2, h3, _⟩ =>
          have e1 : a = .int .u64 x := h1
          have e2 : b = .int .u64 y := h2
          have e3 : d = .int .u64 c := h3
          subst e1 e2 e3
          rfl
      subst hVs
      obtain ⟨c1, c2, c3, c4⟩ := hC
      rw [run_add64 x y c c1 c2 c3 c4]
      rfl
    · cases hsp

/-! ### the borrow of two words -/
def sub64 (x y c : Int) : Int := (x - y - c) % 18446744073709551616
def sub64b (x y c : Int) : Int := if x < y + c then 1 else 0

def specSub64 : List AV → Option (Prop × Ret)
  | [.sc (.i .u64 x), .sc (.i .u64 y), .sc (.i .u64 c)] => some ((0 ≤ x ∧ x < 18446744073709551616) ∧ (0 ≤ y ∧ y < 18446744073709551616) ∧ 0 ≤ c ∧ c ≤ 1, ⟨.tup [.sc (.i .u64 (sub64 x y c)), .sc (.i .u64 (sub64b x y c))], []⟩)
  | _ => none

theorem known_sub64 {P : Program} {G : Globs} {f : FuncId} {fn : Func} {e : Array Value → Sem Value} (hf : P.funcs[f]? = some fn) (hname : (fn.name == "runtime.NumGoroutine") = false)
    (hb : fn.body.isNone = true) (hn : Extern.findNext fn = none) (he : Extern.find fn = some e)
    (hrun : ∀ (x y : Nat) (w : World), (e #[.int .u64 x, .int .u64 y, .int .u64 (0 : Nat)]).run P w = .ok (.tuple #[.int .u64 (((x + 18446744073709551616 - y - 0) % 18446744073709551616 : Nat) : Int), .int .u64 ((if x < y + 0 then 1 else 0 : Nat) : Int)]) w ∧
      (e #[.int .u64 x, .int .u64 y, .int .u64 (1 : Nat)]).run P w = .ok (.tuple #[.int .u64 (((x + 18446744073709551616 - y - 1) % 18446744073709551616 : Nat) : Int), .int .u64 ((if x < y + 1 then 1 else 0 : Nat) : Int)]) w) : Known P G f ⟨[.val, .val, .val], 0, specSub64⟩ := by
  refine ⟨by decide, ?_, ?_⟩
  · intro vs C r h
    simp only at h
    unfold specSub64 at h
    split at h
    · cases h; rfl
    · cases h
  · intro E w args Vs C r hP hG hM hargs hsp hC
    simp only at hsp
    unfold specSub64 at hsp
    split at hsp
    · rename_i x y c
      cases hsp
      refine .inr ⟨_, w, ?_, fun _ => .unset, ⟨#[.int .u64 (sub64 x y c), .int .u64 (sub64b x y c)], rfl, rfl, rfl, trivial⟩, hM⟩
      rw [run_callFunc_extern hf hname hb hn he]
      have hVs : Vs = #[.int .u64 x, .int .u64 y, .int .u64 c] := by
        obtain ⟨l⟩ := Vs
        match l, hargs with
        | [a, b, d], ⟨h1, h2, h3, _⟩ =>
          have e1 : a = .int .u64 x := h1
          have e2 : b = .int .u64 y := h2
          have e3 : d = .int .u64 c := h3
          subst e1 e2 e3
          rfl
      subst hVs
      obtain ⟨⟨c1, c2⟩, ⟨c3, c4⟩, c5, c6⟩ := hC
      obtain ⟨a, rfl⟩ := Int.eq_ofNat_of_zero_le c1
      obtain ⟨b, rfl⟩ := Int.eq_ofNat_of_zero_le c3
      have hc : c = ((0 : Nat) : Int) ∨ c = ((1 : Nat) : Int) := by omega
      have s1 : ∀ k : Nat, k ≤ 1 → (((a + 18446744073709551616 - b - k) % 18446744073709551616 : Nat) : Int) = sub64 a b k := by
        intro k hk
        unfold sub64
        omega
      have s2 : ∀ k : Nat, ((if a < b + k then 1 else 0 : Nat) : Int) = sub64b a b k := by
        intro k
        unfold sub64b
        split <;> split <;> omega
      rcases hc with rfl | rfl
      · rw [(hrun a b w).1, s1 0 (by decide), s2 0]
        rfl
      · rw [(hrun a b w).2, s1 1 (by decide), s2 1]
        rfl
    · cases hsp

end Go.Vm
