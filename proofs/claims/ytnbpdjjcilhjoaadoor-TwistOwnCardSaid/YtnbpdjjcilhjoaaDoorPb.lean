/- A part of the proofs of chapter 05: the small machine that walks the program, the walks of its functions, and what they compute in plain. -/
import Derived.Test.YtnbpdjjcilhjoaaDoorPa
import Derived.Below
import Derived.OpenShut
import Derived.DataShut
import Derived.ChangeSlices
import Derived.SliceStrings
import Derived.LaidMore
import Derived.Test.YtnbpdjjcilhjoaaDoorChecked
set_option linter.unusedVariables false
set_option linter.unusedSimpArgs false
namespace Go.Vm
open Go
structure Sig1 where
 ps : List Pass
 nb : Nat
 spec : List AV → Option (Prop × Ret)
structure Known (P : Program) (G : Globs) (f : FuncId) (z : Sig1) : Prop where
 nb : z.nb ≤ 16
 own : ∀ vs C r, z.spec vs = some (C, r) → r.own z.nb = true
 pure : PureAt P G f z.spec
abbrev TT : Prop := True ∧ True
theorem tt : TT := ⟨trivial, trivial⟩
theorem Known.ps {P : Program} {G : Globs} {f : FuncId} {ps ps' : List Pass} {nb : Nat} {spec : List AV → Option (Prop × Ret)} (h : Known P G f ⟨ps, nb, spec⟩) : Known P G f ⟨ps', nb, spec⟩ := ⟨h.nb, h.own, h.pure⟩
abbrev Lib := List (FuncId × Sig1)
def tabOf (l : Lib) : Tab := fun f args nm => match look f l with
 | some z => callD z.ps z.nb z.spec args nm
 | none => none
def allKnown (P : Program) (G : Globs) : Lib → Prop
 | [] => True
 | (f, z) :: r => Known P G f z ∧ allKnown P G r
theorem allKnown_at {P : Program} {G : Globs} {f : FuncId} {z : Sig1} : ∀ {l : Lib}, allKnown P G l → (f, z) ∈ l → Known P G f z
 | (g, y) :: r, h, hm => by
  rcases List.mem_cons.1 hm with e | e
  ·injection e with e1 e2
   subst e1 e2
   exact h.1
  ·exact allKnown_at h.2 e
theorem tabOk {P : Program} {G : Globs} {l : Lib} (h : allKnown P G l) : TabOk P G (tabOf l) := by
 intro f args nm A hA
 unfold tabOf at hA
 split at hA
 ·rename_i z hz
  have hk := allKnown_at h (look_mem hz)
  exact ⟨callD z.ps z.nb z.spec, sound_of_pure hk.nb hk.own hk.pure, hA⟩
 ·cases hA
variable {B : Bs} {E : Env} {U : Nat} {s : St} {Q : Post}
theorem Tri.seq_region {id : Nat} {ops : Array Oper} {draw : Bool} {d : Code} (hints : List (Nat × Sc)) (ms : Option (List Nat)) (kf km : List Nat) (C : Prop) (s' : St) (U' : Nat) (h : runK B hints U ops ms kf km s = some (C, s')) (hd : ms.isSome = draw)
  (hU : Nat.ble (U + 16 * ops.size) U' = true) (hC : C) (hq : Tri B E d U' s' Q) : Tri B E (.seq (.region id ops draw) d) U s Q :=
 Tri.seq (Tri.region (Q := thenP B E d Q) h hd hU hC hq)
theorem Tri.region' {id : Nat} {ops : Array Oper} {draw : Bool} (hints : List (Nat × Sc)) (ms : Option (List Nat)) (kf km : List Nat) (C : Prop) (s' : St) (U' : Nat) (h : runK B hints U ops ms kf km s = some (C, s')) (hd : ms.isSome = draw)
  (hU : Nat.ble (U + 16 * ops.size) U' = true) (hC : C) (hq : Q .normal U' s') : Tri B E (.region id ops draw) U s Q :=
 Tri.region h hd hU hC hq
theorem sr {id : Nat} {ops : Array Oper} {draw : Bool} {d : Code} (hints : List (Nat × Sc)) (ms : Option (List Nat)) (kf km : List Nat) (C : Prop) (s' : St) (U' : Nat) (hC : C) (hq : Tri B E d U' s' Q)
  (h : runK B hints U ops ms kf km s = some (C, s') := by kernel_rfl) (hd : ms.isSome = draw := by rfl) (hU : Nat.ble (U + 16 * ops.size) U' = true := by kernel_rfl) : Tri B E (.seq (.region id ops draw) d) U s Q :=
 Tri.seq_region hints ms kf km C s' U' h hd hU hC hq
theorem rr {id : Nat} {ops : Array Oper} {draw : Bool} (hints : List (Nat × Sc)) (ms : Option (List Nat)) (kf km : List Nat) (C : Prop) (s' : St) (U' : Nat) (hC : C) (hq : Q .normal U' s')
  (h : runK B hints U ops ms kf km s = some (C, s') := by kernel_rfl) (hd : ms.isSome = draw := by rfl) (hU : Nat.ble (U + 16 * ops.size) U' = true := by kernel_rfl) : Tri B E (.region id ops draw) U s Q :=
 Tri.region' hints ms kf km C s' U' h hd hU hC hq
abbrev qp (b o : Nat) : AV := .sc (.p b o)
abbrev qi (x : Int) : AV := .sc (.i .i64 x)
abbrev qr (xs : List Int) : AV := .sc (.ro .u8 xs)
def countP (U0 n k : Nat) (st' : St) (J' : Prop) (Q : Post) : Post
 | .normal, U, s => k < n ∧ J' ∧ Sub U s U0 st'
 | e, U, s => Q e U s
theorem Tri.count {α : Type} {c : Code} (U0 : Nat) (n : Nat) (f : Nat → α → α) (x0 : α) (J : Nat → α → Prop) (st : Nat → α → St) (hJ : J 0 x0) (h0 : Sub U s U0 (st 0 x0))
  (round : ∀ k x, k ≤ n → x = itr f k x0 → J k x → Tri B E c U0 (st k x) (countP U0 n k (st (k + 1) (f k x)) (J (k + 1) (f k x)) Q)) : Tri B E (.loop c) U s Q := by
 refine Tri.loop (U0 := U0) (fun k => n - k) (fun k => k ≤ n ∧ J k (itr f k x0)) (fun k => st k (itr f k x0)) 0 ⟨Nat.zero_le _, by show J 0 (itr f 0 x0); rw [itr_zero]; exact hJ⟩ (by show Sub U s U0 (st 0 (itr f 0 x0)); rw [itr_zero]; exact h0) ?_
 rintro k ⟨h1, h2⟩
 refine (round k _ h1 rfl h2).mono ?_
 intro e U' s' hq
 cases e with
 | normal =>
  obtain ⟨q1, q2, q3⟩ := hq
  exact ⟨k + 1, (by show n - (k + 1) < n - k; omega), ⟨by omega, by show J (k + 1) (itr f (k + 1) x0); rw [itr_succ]; exact q2⟩, by show Sub _ _ U0 (st (k + 1) (itr f (k + 1) x0)); rw [itr_succ]; exact q3⟩
 | exit id => exact hq
 | goto l => exact hq
 | ret => exact hq
 | panic ch => exact hq
 | outgrown => exact hq
def fstB (S : Nat → Bool) : Nat → Nat
 | 0 => 0
 | n + 1 => bif Nat.blt (fstB S n) n then fstB S n else bif S n then n else n + 1
theorem blt_true {k n : Nat} (h : k < n) : Nat.blt k n = true := by rw [Nat.blt_eq]; exact h
theorem blt_self (n : Nat) : Nat.blt n n = false := by
 cases h : Nat.blt n n
 ·rfl
 ·rw [Nat.blt_eq] at h
  exact absurd h (Nat.lt_irrefl n)
theorem fst_none {S : Nat → Bool} : ∀ {n : Nat}, (∀ j, j < n → S j = false) → fstB S n = n
 | 0, _ => rfl
 | n + 1, h => by
  rw [fstB, fst_none (fun j hj => h j (by omega)), blt_self, h n (by omega)]
  rfl
theorem fst_found {S : Nat → Bool} {k : Nat} : ∀ {n : Nat}, k < n → (∀ j, j < k → S j = false) → S k = true → fstB S n = k
 | 0, h, _, _ => absurd h (by omega)
 | n + 1, h, hl, hk => by
  by_cases hn : k < n
  ·rw [fstB, fst_found hn hl hk, blt_true hn]; rfl
  ·have e : k = n := by omega
   subst e
   rw [fstB, fst_none hl, blt_self, hk]; rfl
theorem fst_le (S : Nat → Bool) : ∀ n, fstB S n ≤ n
 | 0 => Nat.le_refl _
 | n + 1 => by
  rw [fstB]
  cases h : Nat.blt (fstB S n) n
  ·cases S n <;> simp
  ·have := fst_le S n; simp only [cond_true]; omega
theorem below_succ {S : Nat → Bool} {k : Nat} (h : ∀ j, j < k → S j = false) (hk : S k = false) : ∀ j, j < k + 1 → S j = false := by
 intro j hj
 by_cases e : j = k
 ·subst e; exact hk
 ·exact h j (by omega)
theorem blkP_normal {id : Nat} (h : Q .normal U s) : blkP id Q .normal U s := h
theorem thenP_ret {c : Code} (h : Q .ret U s) : thenP B E c Q .ret U s := h
theorem blkP_ret {id : Nat} (h : Q .ret U s) : blkP id Q .ret U s := h
theorem countP_ret {U0 n k : Nat} {st' : St} {J' : Prop} (h : Q .ret U s) : countP U0 n k st' J' Q .ret U s := h
theorem joinP_ret {Um : Nat} {m : St} (h : Q .ret U s) : joinP Um m Q .ret U s := h
theorem Sub.openNil {fr : Fr} {M : Mem} {U U' : Nat} (t b es : Nat) (k : IntKind) (cap : Option Nat) (hcap : cap = none ∨ cap = some 0) (hb : U ≤ b) (hb' : b < U') (ht : look t fr = some (.sc .nils)) (hM : look b M = none) :
  Sub U (fr, M) U' (put1 t (.sc (.sl b 0 0 es cap)) fr, put1 b (.ints k 0 []) M) := by
 rintro E n a w ⟨σ, h1, h2⟩
 refine ⟨fun m => if m = b then .nil else σ m, ?_, fun m hm => ?_⟩
 ·have hx : Ext σ (fun m => if m = b then .nil else σ m) := by
   intro m hm
   have : m ≠ b := fun e => hm (by rw [e]; exact h2 b hb)
   simp only [if_neg this]
  refine { val := fun t' v hv => ?_, defers := h1.defers, tmps := h1.tmps, blk := fun c k' hc => ?_, inj := fun c d x y L L' hc hd hL hL' hg => ?_, old := h1.old, size := h1.size, olds := h1.olds, os := h1.os, tape := h1.tape, output := h1.output }
  ·simp only [look_put1] at hv
   split at hv
   ·rename_i e
    subst e
    injection hv with hv
    subst hv
    obtain ⟨V, q1, q2⟩ := h1.val _ _ ht
    exact ⟨V, q1, .inl ⟨rfl, hcap, none, q2⟩⟩
   ·obtain ⟨V, q1, q2⟩ := h1.val _ _ hv
    exact ⟨V, q1, q2.ext hx⟩
  ·simp only [look_put1] at hc
   split at hc
   ·rename_i e
    subst e
    injection hc with hc
    subst hc
    simp only [if_true]
    exact ⟨rfl, rfl⟩
   ·rename_i e
    simp only [if_neg e]
    have := h1.blk c k' hc
    revert this
    cases σ c with
    | unset => intro h; exact h
    | nil => intro h; exact h
    | «at» L =>
     rintro ⟨g1, arr, elem, lo, hi, p1, p2, p3, p4, p5, p6⟩
     exact ⟨g1, arr, elem, lo, hi, p1, p2, p3, p4, p5, fun j s hs => let ⟨v, q1, q2⟩ := p6 j s hs; ⟨v, q1, q2.ext hx⟩⟩
  ·simp only [look_put1] at hc hd
   split at hc
   ·rename_i e
    simp only [if_pos e] at hL
    cases hL
   ·rename_i e
    simp only [if_neg e] at hL
    split at hd
    ·rename_i e'
     simp only [if_pos e'] at hL'
     cases hL'
    ·rename_i e'
     simp only [if_neg e'] at hL'
     exact h1.inj c d x y L L' hc hd hL hL' hg
 ·have : m ≠ b := by omega
  simp only [if_neg this]
  exact h2 m (by omega)
theorem countP_normal {U0 n k : Nat} {st' : St} {J' : Prop} (h1 : k < n) (h2 : J') (h3 : Sub U s U0 st') : countP U0 n k st' J' Q .normal U s := ⟨h1, h2, h3⟩
theorem Tri.split {c : Code} (x : Bool) (ht : x = true → Tri B E c U s Q) (hf : x = false → Tri B E c U s Q) : Tri B E c U s Q := by
 cases x
 ·exact hf rfl
 ·exact ht rfl
theorem endP.ret {P : Program} {rs : List ResultVar} {r : Ret} (ns : Ren) (C : Prop) (h1 : renOk ns ns.length = true) (h2 : namesOk 0 ns = true) (h3 : finish P rs ns s = some (C, r)) (h4 : C) : endP P rs r .ret U s := ⟨ns, C, h1, h2, h3, h4⟩
theorem endP.conv {P : Program} {rs : List ResultVar} {r r' : Ret} (h : r = r') (h2 : endP P rs r' .ret U s) : endP P rs r .ret U s := h ▸ h2
theorem Known.walk {f : FuncId} {fn : Func} {c : Code} {z : Sig1} (hok : B.Ok) (hf : B.P.funcs[f]? = some fn) (hb : fn.body = some c) (hn : (fn.name != "runtime.NumGoroutine") = true) (hnt : fn.ntmps = B.n) (hnb : z.nb ≤ 16)
  (hown : ∀ vs C r, z.spec vs = some (C, r) → r.own z.nb = true)
  (h : ∀ (E : Env) (args : List AV) (C : Prop) (r : Ret), z.spec args = some (C, r) → C → lens args → args.length ≤ B.n ∧ Tri B E c 0 ((List.range args.length).zip args, []) (endP B.P fn.results.toList r)) : Known B.P B.G f z :=
 ⟨hnb, hown, PureAt.of_walk hok hf hb hn hnt h⟩
theorem Known.same {P : Program} {G : Globs} {f : FuncId} {z z' : Sig1} (h : Known P G f z) (hp : z'.nb = z.nb) (hs : ∀ vs C r, z'.spec vs = some (C, r) → C → ∃ C', z.spec vs = some (C', r) ∧ C') (hown : ∀ vs C r, z'.spec vs = some (C, r) → r.own z'.nb = true) : Known P G f z' :=
 ⟨hp ▸ h.nb, hown, fun E w args Vs C r h1 h2 h3 h4 h5 h6 => by
  obtain ⟨C', h7, h8⟩ := hs args C r h5 h6
  exact h.pure E w args Vs C' r h1 h2 h3 h4 h7 h8⟩
def orS (s1 s2 : List AV → Option (Prop × Ret)) : List AV → Option (Prop × Ret) := fun a => match s1 a with
 | some x => some x
 | none => s2 a
theorem Known.or {P : Program} {G : Globs} {f : FuncId} {ps : List Pass} {nb : Nat} {s1 s2 : List AV → Option (Prop × Ret)} (h1 : Known P G f ⟨ps, nb, s1⟩) (h2 : Known P G f ⟨ps, nb, s2⟩) : Known P G f ⟨ps, nb, orS s1 s2⟩ where
 nb := h1.nb
 own := fun vs C r h => by
  simp only [orS] at h
  split at h
  ·rename_i x hx; cases h; exact h1.own vs C r hx
  ·exact h2.own vs C r h
 pure := fun E w args Vs C r hP hG hM ha h hC => by
  simp only [orS] at h
  split at h
  ·rename_i x hx; cases h; exact h1.pure E w args Vs C r hP hG hM ha hx hC
  ·exact h2.pure E w args Vs C r hP hG hM ha h hC
theorem eq_true_i {a b : Int} (h : (a == b) = true) : a = b := by simpa using h
theorem eq_false_i {a b : Int} (h : (a == b) = false) : a ≠ b := by simpa using h
theorem ne_true_i {a b : Int} (h : (a != b) = true) : a ≠ b := by simpa using h
theorem ne_false_i {a b : Int} (h : (a != b) = false) : a = b := by simpa using h
theorem wrap_small {x : Int} (h : -9223372036854775808 ≤ x) (h' : x < 9223372036854775808) : IntKind.wrap .i64 x = x := by
 unfold IntKind.wrap
 simp only [IntKind.signed, IntKind.bits, if_true, Bool.true_and]
 split <;> rename_i hc <;> simp at hc ⊢ <;> omega
theorem iAdd_nat {a b : Nat} (h : a + b < 9223372036854775808) : iAdd .i64 (a : Int) (b : Int) = ((a + b : Nat) : Int) := by
 unfold iAdd; rw [wrap_small (by omega) (by omega)]; omega
theorem iMul_nat {a b : Nat} (h : a * b < 9223372036854775808) : iMul .i64 (a : Int) (b : Int) = ((a * b : Nat) : Int) := by
 unfold iMul
 have : (a : Int) * (b : Int) = ((a * b : Nat) : Int) := by simp
 rw [this, wrap_small (by omega) (by omega)]
theorem iSub_nat {a b : Nat} (h : b ≤ a) (h' : a < 9223372036854775808) : iSub .i64 (a : Int) (b : Int) = ((a - b : Nat) : Int) := by
 unfold iSub; rw [wrap_small (by omega) (by omega)]; omega
theorem iQuo_nat {a b : Nat} (h : a < 9223372036854775808) : iQuo .i64 (a : Int) (b : Int) = ((a / b : Nat) : Int) := by
 unfold iQuo
 have : Int.tdiv (a : Int) (b : Int) = ((a / b : Nat) : Int) := by rfl
 have h2 : a / b ≤ a := Nat.div_le_self a b
 generalize a / b = d at this h2
 rw [this, wrap_small (by omega) (by omega)]
theorem iRem_nat {a b : Nat} : iRem (a : Int) (b : Int) = ((a % b : Nat) : Int) := rfl
theorem Tri.len {B : Bs} {E : Env} {c : Code} {U : Nat} {s : St} {Q : Post} (b : Nat) {k : IntKind} {n : Nat} {xs : List Int} (h : look b s.2 = some (.ints k n xs)) (q : xs.length = n → Tri B E c U s Q) : Tri B E c U s Q := by
 intro hB a w g
 obtain ⟨σ, h1, h2⟩ := g
 have hb := h1.toMemR.blk b _ h
 have hg : xs.length = n := by
  cases hs : σ b with
  | unset => rw [hs] at hb; cases hb
  | nil => rw [hs] at hb; exact hb.2
  | «at» L => rw [hs] at hb; exact hb.1
 exact q hg hB a w ⟨σ, h1, h2⟩
theorem part1_le {xs : List Int} {n off len B : Nat} (h1 : len ≤ B) (h2 : xs.length ≤ B) : (part1 xs n off len).length ≤ B := by
 unfold part1
 cases Nat.beq len n && Nat.beq off 0
 ·simp only [cond_false, List.length_take, List.length_drop]; omega
 ·exact h2
theorem iSub_dn0 {a : Nat} (h : a < 9223372036854775808) : iSub .i64 (a : Int) 1 = (a : Int) - 1 - ((0 : Nat) : Int) := by
 unfold iSub; rw [wrap_small (by omega) (by omega)]; omega
theorem iSub_dn {a k : Nat} (h : a < 9223372036854775808) (h' : k < 9223372036854775807) : iSub .i64 ((a : Int) - 1 - (k : Int)) 1 = (a : Int) - 1 - ((k + 1 : Nat) : Int) := by
 unfold iSub; rw [wrap_small (by omega) (by omega)]; omega
theorem dn_nat {a k : Nat} (h : k + 1 ≤ a) : (a : Int) - 1 - (k : Int) = ((a - 1 - k : Nat) : Int) := by omega
def add64 (x y c : Int) : Int := (x + y + c) % 18446744073709551616
def add64c (x y c : Int) : Int := (x + y + c) / 18446744073709551616
def specAdd64 : List AV → Option (Prop × Ret)
 | [.sc (.i .u64 x), .sc (.i .u64 y), .sc (.i .u64 c)] => some (0 ≤ x ∧ 0 ≤ y ∧ 0 ≤ c ∧ c ≤ 1, ⟨.tup [.sc (.i .u64 (add64 x y c)), .sc (.i .u64 (add64c x y c))], []⟩)
 | _ => none
theorem known_add64 {P : Program} {G : Globs} {f : FuncId} {fn : Func} (hf : P.funcs[f]? = some fn) (hname : (fn.name == "runtime.NumGoroutine") = false)
  (hb : fn.body.isNone = true) (hn : Extern.findNext fn = none) (he : Extern.find fn = some add64Entry) : Known P G f ⟨[.val, .val, .val], 0, specAdd64⟩ := by
 refine ⟨by decide, ?_, ?_⟩
 ·intro vs C r h
  simp only at h
  unfold specAdd64 at h
  split at h
  ·cases h; rfl
  ·cases h
 ·intro E w args Vs C r hP hG hM hargs hsp hC
  simp only at hsp
  unfold specAdd64 at hsp
  split at hsp
  ·rename_i x y c
   cases hsp
   refine .inr ⟨_, w, ?_, fun _ => .unset, ⟨#[.int .u64 (add64 x y c), .int .u64 (add64c x y c)], rfl, rfl, rfl, trivial⟩, hM⟩
   rw [run_callFunc_extern hf hname hb hn he]
   have hVs : Vs = #[.int .u64 x, .int .u64 y, .int .u64 c] := by
    obtain ⟨l⟩ := Vs
    match l, hargs with
    | [a, b, d], ⟨h1, h2, h3, _⟩ =>
     have e1 : a = .int .u64 x := h1
     have e2 : b = .int .u64 y := h2
     have e3 : d = .int .u64 c := h3
     subst e1 e2 e3
     rfl
   subst hVs
   obtain ⟨c1, c2, c3, c4⟩ := hC
   rw [run_add64 x y c c1 c2 c3 c4]
   rfl
  ·cases hsp
def sub64 (x y c : Int) : Int := (x - y - c) % 18446744073709551616
def sub64b (x y c : Int) : Int := if x < y + c then 1 else 0
def specSub64 : List AV → Option (Prop × Ret)
 | [.sc (.i .u64 x), .sc (.i .u64 y), .sc (.i .u64 c)] => some ((0 ≤ x ∧ x < 18446744073709551616) ∧ (0 ≤ y ∧ y < 18446744073709551616) ∧ 0 ≤ c ∧ c ≤ 1, ⟨.tup [.sc (.i .u64 (sub64 x y c)), .sc (.i .u64 (sub64b x y c))], []⟩)
 | _ => none
theorem known_sub64 {P : Program} {G : Globs} {f : FuncId} {fn : Func} {e : Array Value → Sem Value} (hf : P.funcs[f]? = some fn) (hname : (fn.name == "runtime.NumGoroutine") = false)
  (hb : fn.body.isNone = true) (hn : Extern.findNext fn = none) (he : Extern.find fn = some e)
  (hrun : ∀ (x y : Nat) (w : World), (e #[.int .u64 x, .int .u64 y, .int .u64 (0 : Nat)]).run P w = .ok (.tuple #[.int .u64 (((x + 18446744073709551616 - y - 0) % 18446744073709551616 : Nat) : Int), .int .u64 ((if x < y + 0 then 1 else 0 : Nat) : Int)]) w ∧
   (e #[.int .u64 x, .int .u64 y, .int .u64 (1 : Nat)]).run P w = .ok (.tuple #[.int .u64 (((x + 18446744073709551616 - y - 1) % 18446744073709551616 : Nat) : Int), .int .u64 ((if x < y + 1 then 1 else 0 : Nat) : Int)]) w) : Known P G f ⟨[.val, .val, .val], 0, specSub64⟩ := by
 refine ⟨by decide, ?_, ?_⟩
 ·intro vs C r h
  simp only at h
  unfold specSub64 at h
  split at h
  ·cases h; rfl
  ·cases h
 ·intro E w args Vs C r hP hG hM hargs hsp hC
  simp only at hsp
  unfold specSub64 at hsp
  split at hsp
  ·rename_i x y c
   cases hsp
   refine .inr ⟨_, w, ?_, fun _ => .unset, ⟨#[.int .u64 (sub64 x y c), .int .u64 (sub64b x y c)], rfl, rfl, rfl, trivial⟩, hM⟩
   rw [run_callFunc_extern hf hname hb hn he]
   have hVs : Vs = #[.int .u64 x, .int .u64 y, .int .u64 c] := by
    obtain ⟨l⟩ := Vs
    match l, hargs with
    | [a, b, d], ⟨h1, h2, h3, _⟩ =>
     have e1 : a = .int .u64 x := h1
     have e2 : b = .int .u64 y := h2
     have e3 : d = .int .u64 c := h3
     subst e1 e2 e3
     rfl
   subst hVs
   obtain ⟨⟨c1, c2⟩, ⟨c3, c4⟩, c5, c6⟩ := hC
   obtain ⟨a, rfl⟩ := Int.eq_ofNat_of_zero_le c1
   obtain ⟨b, rfl⟩ := Int.eq_ofNat_of_zero_le c3
   have hc : c = ((0 : Nat) : Int) ∨ c = ((1 : Nat) : Int) := by omega
   have s1 : ∀ k : Nat, k ≤ 1 → (((a + 18446744073709551616 - b - k) % 18446744073709551616 : Nat) : Int) = sub64 a b k := by
    intro k hk
    unfold sub64
    omega
   have s2 : ∀ k : Nat, ((if a < b + k then 1 else 0 : Nat) : Int) = sub64b a b k := by
    intro k
    unfold sub64b
    split <;> split <;> omega
   rcases hc with rfl | rfl
   ·rw [(hrun a b w).1, s1 0 (by decide), s2 0]
    rfl
   ·rw [(hrun a b w).2, s1 1 (by decide), s2 1]
    rfl
  ·cases hsp
end Go.Vm
set_option linter.unusedVariables false
set_option linter.unusedSimpArgs false
namespace Go.Vm
open Go
theorem wrap_u64 (x:Int):IntKind.wrap .u64 x=x % 18446744073709551616:=by
 simp [IntKind.wrap,IntKind.signed,IntKind.bits]
theorem wrap_u8 (x:Int):IntKind.wrap .u8 x=x % 256:=by
 simp [IntKind.wrap,IntKind.signed,IntKind.bits]
theorem wrap64_nn (x:Int):0≤IntKind.wrap .u64 x:=by rw [wrap_u64]; omega
theorem iAnd_nn (x y:Int):0≤iAnd .u64 x y:=wrap64_nn _
theorem iSub_nn (x y:Int):0≤iSub .u64 x y:=wrap64_nn _
theorem iAdd_u64 (x y:Int):iAdd .u64 x y=(x + y) % 18446744073709551616:=wrap_u64 _
theorem iSub_u64 (x y:Int):iSub .u64 x y=(x - y) % 18446744073709551616:=wrap_u64 _
theorem iMul_u64 (x y:Int):iMul .u64 x y=(x * y) % 18446744073709551616:=wrap_u64 _
theorem iAdd_i64 {x y:Int} (h:-9223372036854775808≤x + y) (h':x + y < 9223372036854775808):iAdd .i64 x y=x + y:=wrap_small h h'
theorem iSub_i64 {x y:Int} (h:-9223372036854775808≤x - y) (h':x - y < 9223372036854775808):iSub .i64 x y=x - y:=wrap_small h h'
theorem iMul_i64 {x y:Int} (h:-9223372036854775808≤x * y) (h':x * y < 9223372036854775808):iMul .i64 x y=x * y:=wrap_small h h'
theorem iShr_at (k:IntKind) (x:Int) (n:Nat) (h:n≤k.bits):iShr k x (n:Int)=x / 2 ^ n:=by
 unfold iShr
 have:min ((n:Int)).toNat k.bits=n:=by simp; omega
 rw [this]
 exact Int.fdiv_eq_ediv_of_nonneg _ (by exact Int.le_of_lt (Int.pow_pos (by omega)))
theorem iShl_at (k:IntKind) (x:Int) (n:Nat) (h:n≤k.bits):iShl k x (n:Int)=k.wrap (x * 2 ^ n):=by
 unfold iShl
 have:min ((n:Int)).toNat k.bits=n:=by simp; omega
 rw [this]
theorem iAnd_mask (x:Int) (n:Nat) (h:n≤64):iAnd .u64 x (2 ^ n - 1:Nat)=x % 2 ^ n:=by
 unfold iAnd
 rw [wrap_u64]
 show (((BitVec.ofInt 64 x &&& BitVec.ofInt 64 ((2 ^ n - 1:Nat):Int)).toNat:Nat):Int) % 18446744073709551616=x % 2 ^ n
 rw [BitVec.toNat_and]
 have h2:(BitVec.ofInt 64 ((2 ^ n - 1:Nat):Int)).toNat=2 ^ n - 1:=by
  rw [BitVec.ofInt_natCast,BitVec.toNat_ofNat]
  exact Nat.mod_eq_of_lt (by have:=Nat.pow_le_pow_right (n:=2) (by omega) h; have:0 < 2 ^ n:=Nat.pow_pos (by omega); omega)
 rw [h2,Nat.and_two_pow_sub_one_eq_mod]
 have h3:((BitVec.ofInt 64 x).toNat:Int)=x % 18446744073709551616:=by
  rw [BitVec.toNat_ofInt]
  have:0≤x % ((2 ^ 64:Nat):Int):=Int.emod_nonneg _ (by simp)
  rw [Int.toNat_of_nonneg this]
  rfl
 have h4:(((BitVec.ofInt 64 x).toNat % 2 ^ n:Nat):Int)=x % 2 ^ n:=by
  rw [Int.natCast_emod,h3]
  have h5:((2 ^ n:Nat):Int)=(2:Int) ^ n:=by simp
  rw [h5]
  apply Int.emod_emod_of_dvd
  have:(18446744073709551616:Int)=2 ^ 64:=by rfl
  rw [this]
  exact pow_dvd h
 rw [h4]
 apply Int.emod_eq_of_lt
 ·exact Int.emod_nonneg _ (by have:(0:Int) < 2 ^ n:=Int.pow_pos (by omega); omega)
 ·have h6:(0:Int) < 2 ^ n:=Int.pow_pos (by omega)
  have h7:=Int.emod_lt_of_pos x h6
  have h8:(2:Int) ^ n≤2 ^ 64:=by
   have:=Nat.pow_le_pow_right (n:=2) (by omega) h
   have h9:(((2 ^ n:Nat)):Int)≤((2 ^ 64:Nat):Int):=by exact_mod_cast this
   simpa using h9
  have:(18446744073709551616:Int)=2 ^ 64:=by rfl
  omega
where
 pow_dvd {n m:Nat} (h:n≤m):(2:Int) ^ n ∣ 2 ^ m:=⟨2 ^ (m - n),by rw [← Int.pow_add]; congr 1; omega⟩
def mulHi (x y:Int):Int:=x * y / 18446744073709551616
def mulLo (x y:Int):Int:=x * y % 18446744073709551616
theorem getD_set_ne {xs:List Int} {i j:Nat} {v d:Int} (h:i ≠ j):(xs.set i v).getD j d=xs.getD j d:=by
 simp [List.getD_eq_getElem?_getD,List.getElem?_set,h]
theorem getD_set_eq {xs:List Int} {i:Nat} {v d:Int} (h:i < xs.length):(xs.set i v).getD i d=v:=by
 simp [List.getD_eq_getElem?_getD,List.getElem?_set,h]
theorem mulHi_nonneg {x y:Int} (hx:0≤x) (hy:0≤y):0≤mulHi x y:=Int.ediv_nonneg (Int.mul_nonneg hx hy) (by omega)
theorem mul64_hi (x y:Int) (hx:0≤x) (hx':x < 18446744073709551616) (hy:0≤y) (hy':y < 18446744073709551616) :
  (iAdd .u64 (iAdd .u64 (iMul .u64 (iShr .u64 x 32) (iShr .u64 y 32)) (iShr .u64 (iAdd .u64 (iMul .u64 (iShr .u64 x 32) (iAnd .u64 y 4294967295)) (iShr .u64 (iMul .u64 (iAnd .u64 x 4294967295) (iAnd .u64 y 4294967295)) 32)) 32)) (iShr .u64 (iAdd .u64 (iAnd .u64 (iAdd .u64 (iMul .u64 (iShr .u64 x 32) (iAnd .u64 y 4294967295)) (iShr .u64 (iMul .u64 (iAnd .u64 x 4294967295) (iAnd .u64 y 4294967295)) 32)) 4294967295) (iMul .u64 (iAnd .u64 x 4294967295) (iShr .u64 y 32))) 32))=mulHi x y:=by
 have s:∀ z:Int,iShr .u64 z 32=z / 4294967296:=fun z => iShr_at .u64 z 32 (by decide)
 have m:∀ z:Int,iAnd .u64 z 4294967295=z % 4294967296:=fun z => iAnd_mask z 32 (by decide)
 simp only [s,m,iAdd_u64,iMul_u64,mulHi]
 have ex:x=x / 4294967296 * 4294967296 + x % 4294967296:=by omega
 have ey:y=y / 4294967296 * 4294967296 + y % 4294967296:=by omega
 have h1:0≤x / 4294967296∧x / 4294967296≤4294967295:=by omega
 have h2:0≤x % 4294967296∧x % 4294967296≤4294967295:=by omega
 have h3:0≤y / 4294967296∧y / 4294967296≤4294967295:=by omega
 have h4:0≤y % 4294967296∧y % 4294967296≤4294967295:=by omega
 generalize x / 4294967296=x1 at *
 generalize x % 4294967296=x0 at *
 generalize y / 4294967296=y1 at *
 generalize y % 4294967296=y0 at *
 have bound:∀ u v:Int,0≤u∧u≤4294967295→0≤v∧v≤4294967295→0≤u * v∧u * v≤18446744065119617025:=by
  intro u v hu hv
  refine ⟨Int.mul_nonneg hu.1 hv.1,?_⟩
  have:=Int.mul_le_mul hu.2 hv.2 hv.1 (by omega)
  simpa using this
 have b1:=bound x1 y1 h1 h3
 have b2:=bound x1 y0 h1 h4
 have b3:=bound x0 y1 h2 h3
 have b4:=bound x0 y0 h2 h4
 have exy:x * y=x1 * y1 * 18446744073709551616 + (x1 * y0 + x0 * y1) * 4294967296 + x0 * y0:=by
  rw [ex,ey]; grind
 rw [exy]
 clear exy ex ey bound
 generalize x1 * y1=a at *
 generalize x1 * y0=b at *
 generalize x0 * y1=c at *
 generalize x0 * y0=d at *
 omega
end Go.Vm
set_option linter.unusedVariables false
set_option linter.unusedSimpArgs false
namespace Go.Vm
open Go
def E0 (P:Program) (w:World):Env:={ P:=P,w0:=w,old:=fun g => g < w.heap.size }
theorem cell_lt {w:World} {a:Addr} {v:Value} (h:w.cell? a=some v):a.block < w.heap.size:=by
 unfold World.cell? at h
 cases hb:w.heap[a.block]? with
 | none => simp [hb] at h
 | some o => exact (Array.getElem?_eq_some_iff.1 hb).1
theorem ro_row {P:Program} {σ:Sig} {k:IntKind} {w:World} {a:Option Addr} {len cap:Nat} {zs:List Int}
  (h:(a=none∧len=0∧cap=0∧zs=[]) ∨ ∃ x,a=some x∧len≤cap∧cap≤maxLen∧zs.length=cap∧(∀ i,i < zs.length→w.cell? (x.add i)=some (.int k (zs.getD i 0)))∧∀ n ∈ zs,(Lit.int k n).wf=true) :
  AVR (E0 P w) σ (.sc (.ro k (zs.take len))) (.slice a len cap):=by
 rcases h with ⟨rfl,rfl,rfl,rfl⟩ | ⟨x,rfl,h1,h2,h3,h4,_⟩
 ·exact ⟨none,0,rfl,by simp,by simp⟩
 ·have hl:(zs.take len).length=len:=by simp; omega
  refine ⟨some x,cap,by rw [hl],by rw [hl]; exact h1,fun hp => ⟨x,rfl,?_,fun j hj => ?_⟩⟩
  ·have:=cell_lt (h4 0 (by omega))
   rw [add_block] at this
   exact this
  ·rw [hl] at hj
   show w.cell? _=_
   rw [h4 j (by omega)]
   simp [List.getD_eq_getElem?_getD,List.getElem?_take,hj]
end Go.Vm
set_option linter.unusedVariables false
set_option linter.unusedSimpArgs false
namespace Go.Vm
open Go
section
variable {H:Type} {enc:TypeId × Value→H} {P:Program} {w:World} {base:Nat} {spare:Nat→Bool} {held:Bool}
end
def RowI (k:IntKind) (w:World) (a:Option Addr) (len cap:Nat) (zs:List Int):Prop :=
 (a=none∧len=0∧cap=0∧zs=[]) ∨
 ∃ x,a=some x∧len≤cap∧cap≤maxLen∧zs.length=cap∧(∀ i,i < zs.length→w.cell? (x.add i)=some (.int k (zs.getD i 0)))∧∀ n ∈ zs,(Lit.int k n).wf=true
theorem RowI.fits {k:IntKind} {w:World} {a:Option Addr} {len cap:Nat} {zs:List Int} (h:RowI k w a len cap zs) (n:Nat):∀ x ∈ zs.take n,k.min≤x∧x≤k.max:=by
 intro x hx
 have hm:=List.mem_of_mem_take hx
 rcases h with ⟨_,_,_,rfl⟩ | ⟨_,_,_,_,_,_,hw⟩
 ·cases hm
 ·exact (Lit.wf_int_iff _ _).1 (hw x hm)
def RowB (w:World) (a:Option Addr) (len cap:Nat) (zs:List (List Int)):Prop :=
 (a=none∧len=0∧cap=0∧zs=[]) ∨
 ∃ x,a=some x∧len≤cap∧cap≤maxLen∧zs.length=len∧∀ i,i < len→∃ a' l' c' z',w.cell? (x.add i)=some (.slice a' l' c')∧RowI .u8 w a' l' c' z'∧zs.getD i []=z'.take l'
theorem RowB.fits {w:World} {a:Option Addr} {len cap:Nat} {zs:List (List Int)} (h:RowB w a len cap zs):∀ y ∈ zs,∀ x ∈ y,IntKind.min .u8≤x∧x≤IntKind.max .u8:=by
 rcases h with ⟨_,_,_,rfl⟩ | ⟨_,_,h1,h2,h3,h4⟩
 ·exact fun y hy => by cases hy
 ·intro y hy
  obtain ⟨i,hi⟩:=List.getElem?_of_mem hy
  have hlt:=(List.getElem?_eq_some_iff.1 hi).1
  obtain ⟨a',l',c',z',_,q2,q3⟩:=h4 i (by omega)
  rw [List.getD_eq_getElem?_getD,hi] at q3
  simp only [Option.getD_some] at q3
  subst q3
  exact q2.fits l'
section
variable {H:Type} {enc:TypeId × Value→H} {P:Program} {w:World} {base:Nat} {held:Bool}
end
def RowS (w:World) (a:Option Addr) (len cap:Nat) (zs:List ByteArray):Prop :=
 (a=none∧len=0∧cap=0∧zs=[]) ∨
 ∃ x,a=some x∧len≤cap∧cap≤maxLen∧zs.length=cap∧(∀ i,i < zs.length→w.cell? (x.add i)=some (.string (zs.getD i ByteArray.empty)))∧∀ s ∈ zs,s.size≤maxLen
theorem RowS.fits {w:World} {a:Option Addr} {len cap:Nat} {zs:List ByteArray} (h:RowS w a len cap zs) (n:Nat):(zs.take n).length≤maxLen∧∀ y ∈ zs.take n,y.size≤maxLen:=by
 rcases h with ⟨_,_,_,rfl⟩ | ⟨_,_,h1,h2,h3,h4,h5⟩
 ·simp
 ·refine ⟨by simp only [List.length_take]; omega,fun y hy => h5 y (List.mem_of_mem_take hy)⟩
end Go.Vm
set_option linter.unusedVariables false
set_option linter.unusedSimpArgs false
namespace Go.Vm
open Go
section
variable {H:Type} {enc:TypeId × Value→H} {P:Program} {w:World} {base:Nat} {spare:Nat→Bool} {held:Bool}
theorem trod_known {t e:TypeId} {k:IntKind} {n fuel:Nat} {cs:List Value} {zs:List Int} {p:List MemPlace} (ht:P.underlying t=some (.array n e)) (he:P.underlying e=some (.int k)) (hc:P.cellsOf e=1) (hn:P.cellsOf t=n)
  (h:DataW.trod enc P w base spare held fuel t cs=some ((.agg (zs.map fun z => .lit (.int k z)):DataW H),p)):cs=intVals k zs:=by
 obtain ⟨xs,m,_,hx,hl,hxl,hp⟩:=DataW.trod_array ht h
 have h1:zs.map (fun z => (.lit (.int k z):DataW H))=xs.map (·.1):=by
  have:=congrArg Prod.fst hx
  simpa using this
 have hz:zs.length=n:=by
  have:=congrArg List.length h1
  simp at this
  omega
 apply List.ext_getElem?
 intro i
 by_cases hi:i < n
 ·have h2:=hp i hi
  rw [List.getElem?_eq_getElem (by omega),hc,Nat.mul_one] at h2
  obtain ⟨z,hz1,hz2,_⟩:=DataW.trod_int he h2
  have h3:=congrArg (fun l:List (DataW H) => l[i]?) h1
  simp only [List.getElem?_map] at h3
  rw [List.getElem?_eq_getElem (by omega),List.getElem?_eq_getElem (by omega)] at h3
  simp only [Option.map_some,Option.some.injEq] at h3
  rw [hz2] at h3
  simp only [DataW.lit.injEq,Lit.int.injEq,true_and] at h3
  have h4:=congrArg (fun l:List Value => l[0]?) hz1
  simp only [List.getElem?_take,List.getElem?_drop] at h4
  have h5:cs[i]?=some (.int k z):=by simpa using h4
  rw [h5,intVals,List.getElem?_map,List.getElem?_eq_getElem (by omega),← h3]
  rfl
 ·rw [List.getElem?_eq_none (by omega),List.getElem?_eq_none (by rw [intVals,List.length_map]; omega)]
end
structure LaidI (P:Program) where
 name:String
 g:Nat
 t:TypeId
 e:TypeId
 k:IntKind
 zs:List Int
def LaidI.ok {P:Program} (x:LaidI P):Prop:=P.globalNamed x.name=some x.g∧(P.globals[x.g]?).map (·.type)=some x.t∧P.underlying x.t=some (.array x.zs.length x.e)∧P.underlying x.e=some (.int x.k)∧P.cellsOf x.e=1∧P.cellsOf x.t=x.zs.length
def LaidI.datum {P:Program} (x:LaidI P):DataW Unit:=.agg (x.zs.map fun z => .lit (.int x.k z))
theorem laid_cells {P:Program} {W:World}:∀ {l:List (LaidI P)} {ps:List MemPlace},(∀ x ∈ l,x.ok)→DataW.LaidVars P W (l.map fun x => (x.name,x.datum)) ps →
  ∀ x ∈ l,∀ j,j < x.zs.length→W.cell? ⟨x.g,j,none⟩=some (.int x.k (x.zs.getD j 0))
 | [],_,_,_,x,hx => by cases hx
 | y :: l,ps,hok,h,x,hx => by
  obtain ⟨g,t,cs,fuel,p,q,hg,ht,hv,hd,hr,_⟩:=h
  rcases List.mem_cons.1 hx with rfl | hx
  ·intro j hj
   obtain ⟨o1,o2,o3,o4,o5,o6⟩:=hok x (by simp)
   obtain rfl:=Option.some.inj (o1.symm.trans hg)
   obtain rfl:=Option.some.inj (o2.symm.trans ht)
   have hc:=trod_known o3 o4 o5 o6 hd
   have h1:=World.var?_cell hg hv j
   have h2:cs[j]?=some (.int x.k (x.zs.getD j 0)):=by
    rw [← Array.getElem?_toList,hc,intVals,List.getElem?_map,List.getElem?_eq_getElem hj,List.getD_eq_getElem?_getD,List.getElem?_eq_getElem hj]
    rfl
   rw [h2] at h1
   simpa using h1
  ·exact laid_cells (fun z hz => hok z (by simp [hz])) hr x hx
def globsOf {P:Program}:List (LaidI P)→Globs
 | [],_ => none
 | x :: l,g => bif Nat.beq g x.g then some (x.k,x.zs) else globsOf l g
theorem globs_ok {P:Program} {W:World} {l0:List (LaidI P)} (h:∀ x ∈ l0,∀ j,j < x.zs.length→W.cell? ⟨x.g,j,none⟩=some (.int x.k (x.zs.getD j 0))) (hne:∀ x ∈ l0,0 < x.zs.length):GlobsOk (E0 P W) (globsOf l0):=by
 intro g k xs hg
 have key:∀ l:List (LaidI P),(∀ x ∈ l,x ∈ l0)→globsOf l g=some (k,xs)→∃ x ∈ l0,x.g=g∧x.k=k∧x.zs=xs:=by
  intro l
  induction l with
  | nil => intro _ h; cases h
  | cons y l ih =>
   intro hl h
   unfold globsOf at h
   cases hb:Nat.beq g y.g
   ·rw [hb] at h
    exact ih (fun x hx => hl x (by simp [hx])) h
   ·rw [hb] at h
    simp only [cond_true,Option.some.injEq,Prod.mk.injEq] at h
    exact ⟨y,hl y (by simp),(Nat.eq_of_beq_eq_true hb).symm,h.1,h.2⟩
 obtain ⟨x,hx,rfl,rfl,rfl⟩:=key l0 (fun _ h => h) hg
 refine ⟨?_,fun j hj => ?_⟩
 ·have:=cell_lt (h x hx 0 (hne x hx))
  exact this
 ·have:=h x hx j hj
  show W.cell? ((⟨x.g,0,none⟩:Addr).add j)=_
  rw [← this]
  simp only [Addr.add]
  split
  ·rename_i h0; simp [h0]
  ·simp
theorem calls_trueG {P:Program} {G:Globs} {f:FuncId} {z:Sig1} (h:Known P G f z) (hf:entersB P f=true) (w:World) (hG:GlobsOk (E0 P w) G) (args:List AV) (Vs:Array Value) (C:Prop) (b:Bool) (ha:All2 (AVR (E0 P w) fun _ => .unset) args Vs.toList)
  (hs:z.spec args=some (C,⟨.sc (.b b),[]⟩)) (hC:C) (hb:b=true):Calls P f Vs w fun e w' => e=.returned (.bool true)∧Go.RowKit.Below w.heap.size w w':=by
 have hM:MemR (E0 P w) (fun _ => .unset) [] w :=
  {blk:=fun b k hb => by cases hb
   inj:=fun b c x y L L' hb => by cases hb
   old:=fun _ _ => rfl
   size:=Nat.le_refl _
   olds:=fun _ h => h
   os:=rfl
   tape:=rfl
   output:=rfl }
 rcases h.pure (E0 P w) w args Vs C _ rfl hG hM ha hs hC with ⟨_,h1⟩ | ⟨V,w',h1,_⟩
 ·refine h1.mono fun e w' ⟨V,he,σ',h2,h3⟩ => ?_
  have h4:V=.bool b:=h2
  subst h4 hb
  exact ⟨he,h3.os,h3.tape,h3.output,h3.size,fun k hk => h3.old k hk⟩
 ·rw [run_enters hf] at h1
  cases h1
end Go.Vm
namespace Tabn
def IsPrime (n:Nat):Prop:=2≤n∧∀ m,m ∣ n→m=1 ∨ m=n
theorem IsPrime.coprime_of_lt {p k:Nat} (hp:IsPrime p) (h0:0 < k) (h1:k < p):Nat.Coprime p k:=by
 rcases hp.2 (Nat.gcd p k) (Nat.gcd_dvd_left p k) with h | h
 ·exact h
 ·have:=Nat.gcd_dvd_right p k
  rw [h] at this
  have:=Nat.le_of_dvd h0 this
  omega
theorem IsPrime.dvd_mul {p a b:Nat} (hp:IsPrime p) (h:p ∣ a * b):p ∣ a ∨ p ∣ b:=by
 rcases hp.2 (Nat.gcd p a) (Nat.gcd_dvd_left p a) with h1 | h1
 ·exact .inr (Nat.Coprime.dvd_of_dvd_mul_left h1 h)
 ·exact .inl (h1 ▸ Nat.gcd_dvd_right p a)
def choose:Nat→Nat→Nat
 | _,0 => 1
 | 0,_ + 1 => 0
 | n + 1,k + 1 => choose n k + choose n (k + 1)
theorem choose_big:∀ n k,n < k→choose n k=0
 | 0,0,h => by omega
 | 0,k + 1,_ => rfl
 | n + 1,0,h => by omega
 | n + 1,k + 1,h => by
  show choose n k + choose n (k + 1)=0
  rw [choose_big n k (by omega),choose_big n (k + 1) (by omega)]
theorem choose_zero (n:Nat):choose n 0=1:=by cases n <;> rfl
theorem choose_self:∀ n,choose n n=1
 | 0 => rfl
 | n + 1 => by
  show choose n n + choose n (n + 1)=1
  rw [choose_self n,choose_big n (n + 1) (by omega)]
theorem choose_mul:∀ n k,(n + 1) * choose n k=choose (n + 1) (k + 1) * (k + 1)
 | n,0 => by
  show (n + 1) * choose n 0=(choose n 0 + choose n 1) * 1
  induction n with
  | zero => rfl
  | succ n ih =>
   simp only [choose_zero] at ih ⊢
   have:choose (n + 1) 1=choose n 0 + choose n 1:=rfl
   rw [this,choose_zero]
   omega
 | 0,k + 1 => by
  show (0 + 1) * choose 0 (k + 1)=(choose 0 (k + 1) + choose 0 (k + 2)) * (k + 2)
  simp [choose]
 | n + 1,k + 1 => by
  have h1:=choose_mul n k
  have h2:=choose_mul n (k + 1)
  have e1:choose (n + 2) (k + 2)=choose (n + 1) (k + 1) + choose (n + 1) (k + 2):=rfl
  have e2:choose (n + 1) (k + 1)=choose n k + choose n (k + 1):=rfl
  show (n + 1 + 1) * choose (n + 1) (k + 1)=choose (n + 2) (k + 2) * (k + 1 + 1)
  rw [e1]
  grind
theorem prime_dvd_choose {p k:Nat} (hp:IsPrime p) (h0:0 < k) (h1:k < p):p ∣ choose p k:=by
 obtain ⟨n,rfl⟩:∃ n,p=n + 1:=⟨p - 1,by omega⟩
 obtain ⟨j,rfl⟩:∃ j,k=j + 1:=⟨k - 1,by omega⟩
 have h:=choose_mul n j
 have hd:(n + 1) ∣ choose (n + 1) (j + 1) * (j + 1):=⟨choose n j,h.symm⟩
 exact Nat.Coprime.dvd_of_dvd_mul_right (hp.coprime_of_lt h0 h1) hd
def binsum (n a:Nat):Nat→Nat
 | 0 => 0
 | m + 1 => binsum n a m + choose n m * a ^ m
theorem binsum_step (n a:Nat):∀ m,binsum (n + 1) a (m + 1)=binsum n a (m + 1) + a * binsum n a m
 | 0 => by simp [binsum,choose_zero]
 | m + 1 => by
  have ih:=binsum_step n a m
  have e:choose (n + 1) (m + 1)=choose n m + choose n (m + 1):=rfl
  rw [binsum,ih,e,binsum,binsum,binsum,Nat.pow_succ]
  grind
theorem binomial (a:Nat):∀ n,(a + 1) ^ n=binsum n a (n + 1)
 | 0 => by simp [binsum,choose]
 | n + 1 => by
  have e:binsum n a (n + 1 + 1)=binsum n a (n + 1):=by
   rw [binsum,choose_big n (n + 1) (by omega)]; simp
  rw [Nat.pow_succ,binomial a n,binsum_step,e]
  grind
theorem binsum_mod {p:Nat} (hp:IsPrime p) (a:Nat):∀ m,m + 1≤p→binsum p a (m + 1) % p=1 % p
 | 0,_ => by simp [binsum,choose_zero]
 | m + 1,h => by
  rw [binsum,Nat.add_mod,binsum_mod hp a m (by omega)]
  obtain ⟨c,hc⟩:=prime_dvd_choose hp (show 0 < m + 1 by omega) (by omega)
  rw [hc,Nat.mul_assoc,Nat.mul_mod_right]
  simp
theorem frobenius {p:Nat} (hp:IsPrime p) (a:Nat):(a + 1) ^ p % p=(a ^ p + 1) % p:=by
 have h2:=hp.1
 rw [binomial,binsum,choose_self,Nat.one_mul]
 obtain ⟨q,hq⟩:∃ q,p=q + 1:=⟨p - 1,by omega⟩
 have:=binsum_mod hp a q (by omega)
 rw [← hq] at this
 rw [Nat.add_mod,this,← Nat.add_mod,Nat.add_comm]
theorem fermat {p:Nat} (hp:IsPrime p):∀ a,a ^ p % p=a % p
 | 0 => by rw [Nat.zero_pow (by have:=hp.1; omega)]
 | a + 1 => by
  rw [frobenius hp,Nat.add_mod,fermat hp a,← Nat.add_mod]
theorem dvd_sub_of_mod {p a b:Nat} (h:a % p=b % p):p ∣ a - b:=Nat.dvd_of_mod_eq_zero (Nat.sub_mod_eq_zero_of_mod_eq h)
theorem mod_of_dvd_sub {p a b:Nat} (hle:b≤a) (h:p ∣ a - b):a % p=b % p:=by
 obtain ⟨c,hc⟩:=h
 have:a=b + p * c:=by omega
 rw [this,Nat.add_mul_mod_self_left]
theorem mod_cancel {p a b c:Nat} (hp:IsPrime p) (ha:¬ p ∣ a) (h:a * b % p=a * c % p):b % p=c % p:=by
 rcases Nat.le_total b c with hbc | hbc
 ·have h1:p ∣ a * c - a * b:=dvd_sub_of_mod h.symm
  rw [← Nat.mul_sub] at h1
  rcases hp.dvd_mul h1 with h2 | h2
  ·exact absurd h2 ha
  ·exact (mod_of_dvd_sub hbc h2).symm
 ·have h1:p ∣ a * b - a * c:=dvd_sub_of_mod h
  rw [← Nat.mul_sub] at h1
  rcases hp.dvd_mul h1 with h2 | h2
  ·exact absurd h2 ha
  ·exact (mod_of_dvd_sub hbc h2)
theorem fermat_one {p a:Nat} (hp:IsPrime p) (ha:¬ p ∣ a):a ^ (p - 1) % p=1 % p:=by
 refine mod_cancel hp ha ?_
 have h2:=hp.1
 have e:a * a ^ (p - 1)=a ^ p:=by
  rw [← Nat.pow_succ']; congr 1; omega
 rw [e,Nat.mul_one,fermat hp]
def pmod (m:Nat):Nat→Nat→Nat→Nat
 | 0,_,_ => 1 % m
 | f + 1,a,e => if e=0 then 1 % m else if e % 2=1 then a * pmod m f (a * a % m) (e / 2) % m else pmod m f (a * a % m) (e / 2)
theorem pmod_eq (m:Nat):∀ f a e,e < 2 ^ f→pmod m f a e=a ^ e % m
 | 0,a,e,h => by
  have:e=0:=by simpa using h
  subst this
  rfl
 | f + 1,a,e,h => by
  have hlt:e / 2 < 2 ^ f:=by rw [Nat.pow_succ] at h; omega
  have hs:(a * a % m) ^ (e / 2) % m=a ^ (2 * (e / 2)) % m:=by
   rw [← Nat.pow_mod,Nat.pow_mul,Nat.pow_two]
  unfold pmod
  by_cases h0:e=0
  ·subst h0; simp
  ·rw [if_neg h0,pmod_eq m f _ _ hlt,hs]
   by_cases h1:e % 2=1
   ·rw [if_pos h1]
    rw [Nat.mul_mod,Nat.mod_mod,← Nat.mul_mod,← Nat.pow_succ']
    congr 2; omega
   ·rw [if_neg h1]
    congr 2; omega
theorem exists_prime:∀ n,2≤n→∃ r,IsPrime r∧r ∣ n:=by
 intro n
 induction n using Nat.strongRecOn with
 | _ n ih =>
  intro hn
  by_cases hp:IsPrime n
  ·exact ⟨n,hp,Nat.dvd_refl n⟩
  ·have:∃ m,m ∣ n∧m ≠ 1∧m ≠ n:=by
    apply Classical.byContradiction
    intro h
    apply hp
    refine ⟨hn,fun m hm => ?_⟩
    apply Classical.byContradiction
    intro h2
    exact h ⟨m,hm,fun e => h2 (.inl e),fun e => h2 (.inr e)⟩
   obtain ⟨m,hm,h1,h2⟩:=this
   have hle:=Nat.le_of_dvd (by omega) hm
   have h0:m ≠ 0:=by rintro rfl; have:=Nat.eq_zero_of_zero_dvd hm; omega
   obtain ⟨r,hr,hd⟩:=ih m (by omega) (by omega)
   exact ⟨r,hr,Nat.dvd_trans hd hm⟩
theorem prime_of_small {n:Nat} (hn:2≤n) (h:∀ r,IsPrime r→r ∣ n→n < r * r):IsPrime n:=by
 refine ⟨hn,fun m hm => ?_⟩
 obtain ⟨e,he⟩:=hm
 by_cases h1:m=1
 ·exact .inl h1
 by_cases h2:e=1
 ·subst h2; right; omega
 exfalso
 have hm0:m ≠ 0:=by rintro rfl; omega
 have he0:e ≠ 0:=by rintro rfl; omega
 obtain ⟨r,hr,hrd⟩:=exists_prime m (by omega)
 obtain ⟨s,hs,hsd⟩:=exists_prime e (by omega)
 have a1:=h r hr (Nat.dvd_trans hrd ⟨e,he⟩)
 have a2:=h s hs (Nat.dvd_trans hsd ⟨m,by rw [he,Nat.mul_comm]⟩)
 have b1:=Nat.le_of_dvd (by omega) hrd
 have b2:=Nat.le_of_dvd (by omega) hsd
 rcases Nat.le_total m e with hle | hle
 ·have:r * r≤m * e:=Nat.mul_le_mul b1 (Nat.le_trans b1 hle)
  omega
 ·have:s * s≤m * e:=Nat.mul_le_mul (Nat.le_trans b2 hle) b2
  omega
theorem one_pow_mod {p b m:Nat} (k:Nat) (h:b ^ m % p=1 % p):b ^ (m * k) % p=1 % p:=by
 rw [Nat.pow_mul,Nat.pow_mod,h,← Nat.pow_mod,Nat.one_pow]
theorem pow_gcd_mod {p b:Nat}:∀ m n,b ^ m % p=1 % p→b ^ n % p=1 % p→b ^ (Nat.gcd m n) % p=1 % p:=by
 intro m n
 induction m,n using Nat.gcd.induction with
 | H0 n => intro _ h; simpa using h
 | H1 m n hm ih =>
  intro h1 h2
  rw [Nat.gcd_rec]
  refine ih ?_ h1
  have e:b ^ n=b ^ (m * (n / m)) * b ^ (n % m):=by
   rw [← Nat.pow_add,Nat.div_add_mod]
  rw [e,Nat.mul_mod,one_pow_mod _ h1,← Nat.mul_mod,Nat.one_mul] at h2
  exact h2
theorem pock_dvd {n q a t:Nat} (hn:2≤n) (hq:IsPrime q) (he:t * q=n - 1) (h1:a ^ (n - 1) % n=1 % n)
  (hg:Nat.gcd (a ^ t % n + (n - 1)) n=1) {r:Nat} (hr:IsPrime r) (hd:r ∣ n):q ∣ r - 1:=by
 have hr2:=hr.1
 have hmod:∀ {x y:Nat},x % n=y % n→x % r=y % r:=by
  intro x y h
  rw [← Nat.mod_mod_of_dvd x hd,h,Nat.mod_mod_of_dvd y hd]
 have hbq:(a ^ t) ^ q % r=1 % r:=by
  rw [← Nat.pow_mul,he]; exact hmod h1
 have hrb:¬ r ∣ a ^ t:=by
  intro hdv
  have hz:a ^ t % r=0:=Nat.mod_eq_zero_of_dvd hdv
  rw [Nat.pow_mod,hz,Nat.zero_pow (by have:=hq.1; omega)] at hbq
  rw [Nat.mod_eq_of_lt (by omega:1 < r)] at hbq
  simp at hbq
 have hfl:=fermat_one hr hrb
 rcases hq.2 (Nat.gcd q (r - 1)) (Nat.gcd_dvd_left _ _) with hgc | hgc
 ·exfalso
  have hone:=pow_gcd_mod q (r - 1) hbq hfl
  rw [hgc,Nat.pow_one] at hone
  have hdg:r ∣ a ^ t % n + (n - 1):=by
   have h3:(a ^ t % n) % r=1 % r:=by rw [Nat.mod_mod_of_dvd _ hd]; exact hone
   have h4:(a ^ t % n + (n - 1)) % r=0:=by
    rw [Nat.add_mod,h3,← Nat.add_mod]
    have:1 + (n - 1)=n:=by omega
    rw [this]; exact Nat.mod_eq_zero_of_dvd hd
   exact Nat.dvd_of_mod_eq_zero h4
  have:=Nat.dvd_gcd hdg hd
  rw [hg] at this
  have:=Nat.le_of_dvd (by omega) this
  omega
 ·have:=Nat.gcd_dvd_right q (r - 1)
  rwa [hgc] at this
theorem pock1 {n q a t f:Nat} (hq:IsPrime q) (hn:2≤n) (he:t * q=n - 1) (hf:n - 1 < 2 ^ f) (h1:pmod n f a (n - 1)=1)
  (hg:Nat.gcd (pmod n f a t + (n - 1)) n=1) (hb:n < q * q):IsPrime n:=by
 have ht:t≤n - 1:=by rw [← he]; exact Nat.le_mul_of_pos_right t (by have:=hq.1; omega)
 rw [pmod_eq n f a _ hf] at h1
 rw [pmod_eq n f a _ (by omega)] at hg
 refine prime_of_small hn fun r hr hd => ?_
 have h:=pock_dvd hn hq he (by rw [h1,Nat.mod_eq_of_lt (by omega:1 < n)]) hg hr hd
 have:=Nat.le_of_dvd (by have:=hr.1; omega) h
 have:=Nat.mul_le_mul (show q≤r by omega) (show q≤r by omega)
 omega
theorem pock2 {n q q' a t t' f:Nat} (hq:IsPrime q) (hq':IsPrime q') (hne:q' < q) (hn:2≤n) (he:t * q=n - 1) (he':t' * q'=n - 1) (hf:n - 1 < 2 ^ f)
  (h1:pmod n f a (n - 1)=1) (hg:Nat.gcd (pmod n f a t + (n - 1)) n=1) (hg':Nat.gcd (pmod n f a t' + (n - 1)) n=1) (hb:n < (q * q') * (q * q')):IsPrime n:=by
 have ht:t≤n - 1:=by rw [← he]; exact Nat.le_mul_of_pos_right t (by have:=hq.1; omega)
 have ht':t'≤n - 1:=by rw [← he']; exact Nat.le_mul_of_pos_right t' (by have:=hq'.1; omega)
 rw [pmod_eq n f a _ hf] at h1
 rw [pmod_eq n f a _ (by omega)] at hg
 rw [pmod_eq n f a _ (by omega)] at hg'
 have h1':a ^ (n - 1) % n=1 % n:=by rw [h1,Nat.mod_eq_of_lt (by omega:1 < n)]
 refine prime_of_small hn fun r hr hd => ?_
 have h:=pock_dvd hn hq he h1' hg hr hd
 have h':=pock_dvd hn hq' he' h1' hg' hr hd
 have hc:Nat.Coprime q q':=hq.coprime_of_lt (by have:=hq'.1; omega) hne
 have:=Nat.le_of_dvd (by have:=hr.1; omega) (Nat.Coprime.mul_dvd_of_dvd_of_dvd hc h h')
 have:=Nat.mul_le_mul (show q * q'≤r by omega) (show q * q'≤r by omega)
 omega
def smallPrime (n:Nat):Bool:=(List.range n).all fun m => m < 2 || n % m != 0
theorem prime_of_smallPrime {n:Nat} (hn:2≤n) (h:smallPrime n=true):IsPrime n:=by
 refine ⟨hn,fun m hm => ?_⟩
 have hle:=Nat.le_of_dvd (by omega) hm
 by_cases h2:m=n
 ·exact .inr h2
 unfold smallPrime at h
 rw [List.all_eq_true] at h
 have:=h m (List.mem_range.2 (by omega))
 have hz:n % m=0:=Nat.mod_eq_zero_of_dvd hm
 simp [hz] at this
 left
 have h0:m ≠ 0:=by rintro rfl; have:=Nat.eq_zero_of_zero_dvd hm; omega
 omega
theorem prime_0:IsPrime 97:=prime_of_smallPrime (by decide) (by decide +kernel)
theorem prime_1:IsPrime 103:=prime_of_smallPrime (by decide) (by decide +kernel)
theorem prime_2:IsPrime 127:=prime_of_smallPrime (by decide) (by decide +kernel)
theorem prime_3:IsPrime 419:=prime_of_smallPrime (by decide) (by decide +kernel)
theorem prime_4:IsPrime 991:=prime_of_smallPrime (by decide) (by decide +kernel)
theorem prime_5:IsPrime 1723:=prime_of_smallPrime (by decide) (by decide +kernel)
theorem prime_6:IsPrime 4153:=prime_of_smallPrime (by decide) (by decide +kernel)
theorem prime_7:IsPrime 430751:=pock1 (q:=1723) (a:=2) (t:=250) (f:=19) prime_5 (by decide +kernel) (by decide +kernel) (by decide +kernel) (by decide +kernel) (by decide +kernel) (by decide +kernel)
theorem prime_8:IsPrime 569003:=pock2 (q:=419) (q':=97) (a:=2) (t:=1358) (t':=5866) (f:=20) prime_3 prime_0 (by decide +kernel) (by decide +kernel) (by decide +kernel) (by decide +kernel) (by decide +kernel) (by decide +kernel) (by decide +kernel) (by decide +kernel) (by decide +kernel)
theorem prime_9:IsPrime 8574133:=pock2 (q:=991) (q':=103) (a:=2) (t:=8652) (t':=83244) (f:=24) prime_4 prime_1 (by decide +kernel) (by decide +kernel) (by decide +kernel) (by decide +kernel) (by decide +kernel) (by decide +kernel) (by decide +kernel) (by decide +kernel) (by decide +kernel)
theorem prime_10:IsPrime 2773320623:=pock1 (q:=569003) (a:=2) (t:=4874) (f:=32) prime_8 (by decide +kernel) (by decide +kernel) (by decide +kernel) (by decide +kernel) (by decide +kernel) (by decide +kernel)
theorem prime_11:IsPrime 72106336199:=pock1 (q:=2773320623) (a:=2) (t:=26) (f:=37) prime_10 (by decide +kernel) (by decide +kernel) (by decide +kernel) (by decide +kernel) (by decide +kernel) (by decide +kernel)
theorem prime_12:IsPrime 1919519569386763:=pock2 (q:=8574133) (q':=127) (a:=2) (t:=223873314) (t':=15114327318006) (f:=51) prime_9 prime_2 (by decide +kernel) (by decide +kernel) (by decide +kernel) (by decide +kernel) (by decide +kernel) (by decide +kernel) (by decide +kernel) (by decide +kernel) (by decide +kernel)
theorem prime_13:IsPrime 31757755568855353:=pock2 (q:=430751) (q':=4153) (a:=2) (t:=73726481352) (t':=7646943310584) (f:=55) prime_7 prime_6 (by decide +kernel) (by decide +kernel) (by decide +kernel) (by decide +kernel) (by decide +kernel) (by decide +kernel) (by decide +kernel) (by decide +kernel) (by decide +kernel)
theorem prime_14:IsPrime 75445702479781427272750846543864801:=pock2 (q:=1919519569386763) (q':=72106336199) (a:=2) (t:=39304471641247389600) (t':=1046311689884858398375200) (f:=116) prime_12 prime_11 (by decide +kernel) (by decide +kernel) (by decide +kernel) (by decide +kernel) (by decide +kernel) (by decide +kernel) (by decide +kernel) (by decide +kernel) (by decide +kernel)
theorem prime_15:IsPrime 74058212732561358302231226437062788676166966415465897661863160754340907:=pock2 (q:=75445702479781427272750846543864801) (q':=31757755568855353) (a:=2) (t:=981609426360740691344999861639072106) (t':=2331972502653487852620185443007392165117953542933313402) (f:=236) prime_14 prime_13 (by decide +kernel) (by decide +kernel) (by decide +kernel) (by decide +kernel) (by decide +kernel) (by decide +kernel) (by decide +kernel) (by decide +kernel) (by decide +kernel)
theorem prime_16:IsPrime 57896044618658097711785492504343953926634992332820282019728792003956564819949:=pock1 (q:=74058212732561358302231226437062788676166966415465897661863160754340907) (a:=2) (t:=781764) (f:=255) prime_15 (by decide +kernel) (by decide +kernel) (by decide +kernel) (by decide +kernel) (by decide +kernel) (by decide +kernel)
def P:Nat:=57896044618658097711785492504343953926634992332820282019728792003956564819949
theorem prime_P:IsPrime P:=prime_16
end Tabn
set_option linter.unusedVariables false
namespace Tabn
abbrev F:=Fin P
instance:NeZero P:=⟨by decide⟩
theorem P_pos:0 < P:=by decide
theorem fmul_zero {a b:F} (h:a * b=0):a=0 ∨ b=0:=by
 have h1:(a * b).val=0:=by rw [h]; rfl
 rw [Fin.val_mul] at h1
 have h2:P ∣ a.val * b.val:=Nat.dvd_of_mod_eq_zero h1
 have small:∀ c:F,P ∣ c.val→c=0:=by
  intro c hc
  apply Fin.ext
  show c.val=0
  rcases Nat.eq_zero_or_pos c.val with h0 | h0
  ·exact h0
  ·have:=Nat.le_of_dvd h0 hc
   have:=c.isLt
   omega
 rcases prime_P.dvd_mul h2 with h3 | h3
 ·exact .inl (small _ h3)
 ·exact .inr (small _ h3)
theorem fmul_ne {a b:F} (ha:a ≠ 0) (hb:b ≠ 0):a * b ≠ 0:=fun h => by
 rcases fmul_zero h with h | h
 ·exact ha h
 ·exact hb h
theorem fcancel {a b c:F} (ha:a ≠ 0) (h:a * b=a * c):b=c:=by
 have h1:a * (b - c)=0:=by grind -lia -linarith
 rcases fmul_zero h1 with h2 | h2
 ·exact absurd h2 ha
 ·grind -lia -linarith
def eI:Nat:=57896044618658097711785492504343953926634992332820282019728792003956564819947
def finvN (e:Nat) (a:F):F:=⟨a.val ^ e % P,Nat.mod_lt _ P_pos⟩
def finv (a:F):F:=finvN eI a
theorem finv_mul {a:F} (h:a ≠ 0):a * finv a=1:=by
 apply Fin.ext
 rw [Fin.val_mul]
 show a.val * (a.val ^ eI % P) % P=1 % P
 have e:eI + 1=P - 1:=by decide
 rw [Nat.mul_mod_mod,Nat.mul_comm,← Nat.pow_succ]
 show a.val ^ (eI + 1) % P=1 % P
 rw [e]
 apply fermat_one prime_P
 intro hd
 apply h
 apply Fin.ext
 show a.val=0
 rcases Nat.eq_zero_or_pos a.val with h0 | h0
 ·exact h0
 ·have:=Nat.le_of_dvd h0 hd
  have:=a.isLt
  omega
theorem eI_lit:eI=57896044618658097711785492504343953926634992332820282019728792003956564819947:=rfl
attribute [irreducible] eI
theorem finv_val (a:F):(finv a).val=a.val ^ eI % P:=rfl
attribute [irreducible] finv
theorem fdiv {a b c:F} (hb:b ≠ 0) (h:c=a * finv b):c * b=a:=by
 have:=finv_mul hb
 grind -lia -linarith
theorem fdiv_of {a b c:F} (hb:b ≠ 0) (h:c * b=a):c=a * finv b:=by
 have:=finv_mul hb
 grind -lia -linarith
theorem two_ne:(2:F) ≠ 0:=by decide
theorem ftwo {a:F} (h:2 * a=0):a=0:=by
 rcases fmul_zero h with h | h
 ·exact absurd h two_ne
 ·exact h
structure Crv where
 a:F
 d:F
 r:F
 sq:r * r=a
 an:a ≠ 0
 nsq:∀ s,s * s ≠ d
theorem Crv.rn (C:Crv):C.r ≠ 0:=fun h => C.an (by rw [← C.sq,h]; grind -lia -linarith)
theorem Crv.dn (C:Crv):C.d ≠ 0:=fun h => C.nsq 0 (by rw [h]; grind -lia -linarith)
def On (C:Crv) (x y:F):Prop:=C.a * x ^ 2 + y ^ 2=1 + C.d * x ^ 2 * y ^ 2
theorem nsq_of (C:Crv) {p q:F} (hq:q ≠ 0) (h:p ^ 2=C.d * q ^ 2):False:=by
 have:=finv_mul hq
 exact C.nsq (p * finv q) (by grind -lia -linarith)
theorem Crv.complete (C:Crv) {x1 y1 x2 y2:F} (h1:On C x1 y1) (h2:On C x2 y2) (e:F) (he:e * e=1):C.d * x1 * x2 * y1 * y2 ≠ e:=by
 intro h
 unfold On at h1 h2
 have hr:=C.sq
 have hne:e ≠ 0:=by
  intro h0
  rw [h0] at he
  have:(0:F)=1:=by grind -lia -linarith
  exact absurd this (by decide)
 have hx1:x1 ≠ 0:=by intro h0; apply hne; rw [← h,h0]; grind -lia -linarith
 have hy1:y1 ≠ 0:=by intro h0; apply hne; rw [← h,h0]; grind -lia -linarith
 have hx2:x2 ≠ 0:=by intro h0; apply hne; rw [← h,h0]; grind -lia -linarith
 have k1:(C.r * x1 + e * y1) ^ 2=C.d * (x1 * y1 * (C.r * x2 + y2)) ^ 2:=by grind -lia -linarith
 have k2:(C.r * x1 - e * y1) ^ 2=C.d * (x1 * y1 * (C.r * x2 - y2)) ^ 2:=by grind -lia -linarith
 by_cases g1:C.r * x2 + y2=0
 ·by_cases g2:C.r * x2 - y2=0
  ·have:2 * (C.r * x2)=0:=by grind -lia -linarith
   rcases fmul_zero (ftwo this) with h3 | h3
   ·exact C.rn h3
   ·exact hx2 h3
  ·exact nsq_of C (fmul_ne (fmul_ne hx1 hy1) g2) k2
 ·exact nsq_of C (fmul_ne (fmul_ne hx1 hy1) g1) k1
theorem Crv.dp (C:Crv) {x1 y1 x2 y2:F} (h1:On C x1 y1) (h2:On C x2 y2):1 + C.d * x1 * x2 * y1 * y2 ≠ 0:=fun h =>
 C.complete h1 h2 (-1) (by grind -lia -linarith) (by grind -lia -linarith)
theorem Crv.dm (C:Crv) {x1 y1 x2 y2:F} (h1:On C x1 y1) (h2:On C x2 y2):1 - C.d * x1 * x2 * y1 * y2 ≠ 0:=fun h =>
 C.complete h1 h2 1 (by grind -lia -linarith) (by grind -lia -linarith)
structure Pt (C:Crv) where
 x:F
 y:F
 on:On C x y
theorem Pt.eq {C:Crv} {p q:Pt C} (hx:p.x=q.x) (hy:p.y=q.y):p=q:=by
 cases p; cases q; simp only at hx hy; subst hx hy; rfl
def sumX (C:Crv) (x1 y1 x2 y2:F):F:=(x1 * y2 + x2 * y1) * finv (1 + C.d * x1 * x2 * y1 * y2)
def sumY (C:Crv) (x1 y1 x2 y2:F):F:=(y1 * y2 - C.a * x1 * x2) * finv (1 - C.d * x1 * x2 * y1 * y2)
theorem closed (a d x1 y1 x2 y2:F) (h1:a*x1^2 + y1^2=1 + d*x1^2*y1^2) (h2:a*x2^2 + y2^2=1 + d*x2^2*y2^2) :
 a*(x1*y2+x2*y1)^2*(1-d*x1*x2*y1*y2)^2 + (y1*y2-a*x1*x2)^2*(1+d*x1*x2*y1*y2)^2=(1+d*x1*x2*y1*y2)^2*(1-d*x1*x2*y1*y2)^2 + d*(x1*y2+x2*y1)^2*(y1*y2-a*x1*x2)^2:=by
 grind -lia -linarith
theorem sum_on (C:Crv) {x1 y1 x2 y2:F} (h1:On C x1 y1) (h2:On C x2 y2):On C (sumX C x1 y1 x2 y2) (sumY C x1 y1 x2 y2):=by
 have p:=finv_mul (C.dp h1 h2)
 have m:=finv_mul (C.dm h1 h2)
 have k:=closed C.a C.d x1 y1 x2 y2 h1 h2
 unfold On sumX sumY
 generalize finv (1 + C.d * x1 * x2 * y1 * y2)=u at *
 generalize finv (1 - C.d * x1 * x2 * y1 * y2)=v at *
 generalize 1 + C.d * x1 * x2 * y1 * y2=s at *
 generalize 1 - C.d * x1 * x2 * y1 * y2=t at *
 generalize x1 * y2 + x2 * y1=X at *
 generalize y1 * y2 - C.a * x1 * x2=Y at *
 have hs:s ^ 2 * u ^ 2=1:=by grind -lia -linarith
 have ht:t ^ 2 * v ^ 2=1:=by grind -lia -linarith
 grind -lia -linarith
def Pt.add {C:Crv} (p q:Pt C):Pt C:=⟨sumX C p.x p.y q.x q.y,sumY C p.x p.y q.x q.y,sum_on C p.on q.on⟩
def Pt.zero (C:Crv):Pt C:=⟨0,1,by unfold On; grind -lia -linarith⟩
def Pt.neg {C:Crv} (p:Pt C):Pt C:=⟨-p.x,p.y,by have:=p.on; unfold On at *; grind -lia -linarith⟩
theorem Pt.add_comm {C:Crv} (p q:Pt C):p.add q=q.add p:=by
 apply Pt.eq
 ·show sumX C _ _ _ _=sumX C _ _ _ _
  unfold sumX
  have e:1 + C.d * p.x * q.x * p.y * q.y=1 + C.d * q.x * p.x * q.y * p.y:=by grind -lia -linarith
  rw [e]; grind -lia -linarith
 ·show sumY C _ _ _ _=sumY C _ _ _ _
  unfold sumY
  have e:1 - C.d * p.x * q.x * p.y * q.y=1 - C.d * q.x * p.x * q.y * p.y:=by grind -lia -linarith
  rw [e]; grind -lia -linarith
theorem add_x {C:Crv} (p q:Pt C):(p.add q).x * (1 + C.d * p.x * q.x * p.y * q.y)=p.x * q.y + q.x * p.y:=fdiv (C.dp p.on q.on) rfl
theorem add_y {C:Crv} (p q:Pt C):(p.add q).y * (1 - C.d * p.x * q.x * p.y * q.y)=p.y * q.y - C.a * p.x * q.x:=fdiv (C.dm p.on q.on) rfl
theorem add_eq {C:Crv} {p q s:Pt C} (hx:s.x * (1 + C.d * p.x * q.x * p.y * q.y)=p.x * q.y + q.x * p.y) (hy:s.y * (1 - C.d * p.x * q.x * p.y * q.y)=p.y * q.y - C.a * p.x * q.x):p.add q=s:=by
 apply Pt.eq
 ·apply fcancel (C.dp p.on q.on)
  have:=add_x p q
  grind -lia -linarith
 ·apply fcancel (C.dm p.on q.on)
  have:=add_y p q
  grind -lia -linarith
theorem Pt.zero_add {C:Crv} (p:Pt C):(Pt.zero C).add p=p:=by
 apply add_eq
 ·show p.x * (1 + C.d * 0 * p.x * 1 * p.y)=0 * p.y + p.x * 1; grind -lia -linarith
 ·show p.y * (1 - C.d * 0 * p.x * 1 * p.y)=1 * p.y - C.a * 0 * p.x; grind -lia -linarith
theorem Pt.neg_add {C:Crv} (p:Pt C):p.neg.add p=Pt.zero C:=by
 have:=p.on
 unfold On at this
 apply add_eq
 ·show 0 * (1 + C.d * (-p.x) * p.x * p.y * p.y)=(-p.x) * p.y + p.x * p.y; grind -lia -linarith
 ·show 1 * (1 - C.d * (-p.x) * p.x * p.y * p.y)=p.y * p.y - C.a * (-p.x) * p.x; grind -lia -linarith
theorem assoc_x (a d x1 y1 x2 y2 x3 y3:F) (h1:a*x1^2 + y1^2=1 + d*x1^2*y1^2) (h2:a*x2^2 + y2^2=1 + d*x2^2*y2^2) (h3:a*x3^2 + y3^2=1 + d*x3^2*y3^2) :
 ((x1*y2+x2*y1)*y3*(1-d*x1*x2*y1*y2) + x3*(y1*y2-a*x1*x2)*(1+d*x1*x2*y1*y2)) * (1-(d*x2*x3*y2*y3)^2 + d*(x2*y3+x3*y2)*(y2*y3-a*x2*x3)*x1*y1)
 =(x1*(y2*y3-a*x2*x3)*(1+d*x2*x3*y2*y3) + (x2*y3+x3*y2)*y1*(1-d*x2*x3*y2*y3)) * (1-(d*x1*x2*y1*y2)^2 + d*(x1*y2+x2*y1)*(y1*y2-a*x1*x2)*x3*y3):=by
 grind -lia -linarith
theorem assoc_y (a d x1 y1 x2 y2 x3 y3:F) (h1:a*x1^2 + y1^2=1 + d*x1^2*y1^2) (h2:a*x2^2 + y2^2=1 + d*x2^2*y2^2) (h3:a*x3^2 + y3^2=1 + d*x3^2*y3^2) :
 ((y1*y2-a*x1*x2)*y3*(1+d*x1*x2*y1*y2) - a*(x1*y2+x2*y1)*x3*(1-d*x1*x2*y1*y2)) * (1-(d*x2*x3*y2*y3)^2 - d*(x2*y3+x3*y2)*(y2*y3-a*x2*x3)*x1*y1)
 =(y1*(y2*y3-a*x2*x3)*(1+d*x2*x3*y2*y3) - a*x1*(x2*y3+x3*y2)*(1-d*x2*x3*y2*y3)) * (1-(d*x1*x2*y1*y2)^2 - d*(x1*y2+x2*y1)*(y1*y2-a*x1*x2)*x3*y3):=by
 grind -lia -linarith
theorem thrice (D d u X v Y x y l e:F) (hu:u * (1 + D)=X) (hv:v * (1 - D)=Y) (hl:l * (1 + d * u * x * v * y)=u * y + x * v) :
  l * (1 - D ^ 2 + d * X * Y * x * y)=X * y * (1 - D) + x * Y * (1 + D):=by
 subst hu hv
 grind -lia -linarith
theorem thrice' (D a d u X v Y x y l e:F) (hu:u * (1 + D)=X) (hv:v * (1 - D)=Y) (hl:l * (1 - d * u * x * v * y)=v * y - a * u * x) :
  l * (1 - D ^ 2 - d * X * Y * x * y)=Y * y * (1 + D) - a * X * x * (1 - D):=by
 subst hu hv
 grind -lia -linarith
theorem thrice_ne {D d u X v Y x y:F} (hu:u * (1 + D)=X) (hv:v * (1 - D)=Y) (n1:1 + D ≠ 0) (n2:1 - D ≠ 0) (n3:1 + d * u * x * v * y ≠ 0):1 - D ^ 2 + d * X * Y * x * y ≠ 0:=by
 have e:1 - D ^ 2 + d * X * Y * x * y=(1 + D) * (1 - D) * (1 + d * u * x * v * y):=by
  subst hu hv
  grind -lia -linarith
 rw [e]; exact fmul_ne (fmul_ne n1 n2) n3
theorem thrice_ne' {D d u X v Y x y:F} (hu:u * (1 + D)=X) (hv:v * (1 - D)=Y) (n1:1 + D ≠ 0) (n2:1 - D ≠ 0) (n3:1 - d * u * x * v * y ≠ 0):1 - D ^ 2 - d * X * Y * x * y ≠ 0:=by
 have e:1 - D ^ 2 - d * X * Y * x * y=(1 + D) * (1 - D) * (1 - d * u * x * v * y):=by
  subst hu hv
  grind -lia -linarith
 rw [e]; exact fmul_ne (fmul_ne n1 n2) n3
theorem frac_eq {l r nl dl nr dr:F} (h1:l * dl=nl) (h2:r * dr=nr) (h3:nl * dr=nr * dl) (n1:dl ≠ 0) (n2:dr ≠ 0):l=r:=by
 apply fcancel (fmul_ne n1 n2)
 subst h1 h2
 grind -lia -linarith
theorem Pt.add_assoc {C:Crv} (p q s:Pt C):(p.add q).add s=p.add (q.add s):=by
 have ax:=assoc_x C.a C.d p.x p.y q.x q.y s.x s.y p.on q.on s.on
 have ay:=assoc_y C.a C.d p.x p.y q.x q.y s.x s.y p.on q.on s.on
 have ux:=add_x p q
 have uy:=add_y p q
 have vx:=add_x q s
 have vy:=add_y q s
 have n1:=C.dp p.on q.on
 have n2:=C.dm p.on q.on
 have n3:=C.dp q.on s.on
 have n4:=C.dm q.on s.on
 apply Pt.eq
 ·have lx:=thrice _ C.d _ _ _ _ s.x s.y _ 0 ux uy (add_x (p.add q) s)
  have rx:=thrice _ C.d _ _ _ _ p.x p.y ((q.add s).add p).x 0 vx vy (add_x (q.add s) p)
  have m1:=thrice_ne (d:=C.d) (x:=s.x) (y:=s.y) ux uy n1 n2 (C.dp (p.add q).on s.on)
  have m2:=thrice_ne (d:=C.d) (x:=p.x) (y:=p.y) vx vy n3 n4 (C.dp (q.add s).on p.on)
  rw [Pt.add_comm p (q.add s)]
  exact frac_eq lx rx (by clear lx rx m1 m2 ux uy vx vy n1 n2 n3 n4 ay; grind -lia -linarith) m1 m2
 ·have lx:=thrice' _ C.a C.d _ _ _ _ s.x s.y _ 0 ux uy (add_y (p.add q) s)
  have rx:=thrice' _ C.a C.d _ _ _ _ p.x p.y ((q.add s).add p).y 0 vx vy (add_y (q.add s) p)
  have m1:=thrice_ne' (d:=C.d) (x:=s.x) (y:=s.y) ux uy n1 n2 (C.dm (p.add q).on s.on)
  have m2:=thrice_ne' (d:=C.d) (x:=p.x) (y:=p.y) vx vy n3 n4 (C.dm (q.add s).on p.on)
  rw [Pt.add_comm p (q.add s)]
  exact frac_eq lx rx (by clear lx rx m1 m2 ux uy vx vy n1 n2 n3 n4 ax; grind -lia -linarith) m1 m2
def Pt.mul {C:Crv}:Nat→Pt C→Pt C
 | 0,_ => Pt.zero C
 | n + 1,p => (Pt.mul n p).add p
theorem Pt.add_zero {C:Crv} (p:Pt C):p.add (Pt.zero C)=p:=by rw [Pt.add_comm,Pt.zero_add]
theorem Pt.mul_one {C:Crv} (p:Pt C):Pt.mul 1 p=p:=Pt.zero_add p
theorem Pt.add_mul {C:Crv} (m n:Nat) (p:Pt C):Pt.mul (m + n) p=(Pt.mul m p).add (Pt.mul n p):=by
 induction n with
 | zero => show Pt.mul m p=(Pt.mul m p).add (Pt.zero C); rw [Pt.add_zero]
 | succ n ih => show (Pt.mul (m + n) p).add p=(Pt.mul m p).add ((Pt.mul n p).add p); rw [ih,Pt.add_assoc]
theorem Pt.mul_mul {C:Crv} (m n:Nat) (p:Pt C):Pt.mul (m * n) p=Pt.mul m (Pt.mul n p):=by
 induction m with
 | zero => rw [Nat.zero_mul]; rfl
 | succ m ih => rw [Nat.succ_mul,Pt.add_mul,ih]; rfl
theorem Pt.mul_zero {C:Crv} (m:Nat):Pt.mul m (Pt.zero C)=Pt.zero C:=by
 induction m with
 | zero => rfl
 | succ m ih => show (Pt.mul m (Pt.zero C)).add _=_; rw [ih,Pt.zero_add]
theorem Pt.add_cancel {C:Crv} {p q s:Pt C} (h:p.add q=p.add s):q=s:=by
 have:=congrArg (Pt.add p.neg) h
 rw [← Pt.add_assoc,← Pt.add_assoc,Pt.neg_add,Pt.zero_add,Pt.zero_add] at this
 exact this
end Tabn
set_option linter.unusedVariables false
namespace Tabn
def fpow (a:F):Nat→F
 | 0 => 1
 | n + 1 => fpow a n * a
theorem fpow_val (a:F) (n:Nat):(fpow a n).val=a.val ^ n % P:=by
 induction n with
 | zero => rfl
 | succ n ih =>
  show (fpow a n * a).val=_
  rw [Fin.val_mul,ih,Nat.pow_succ,Nat.mod_mul_mod]
theorem fpow_add (a:F) (m n:Nat):fpow a (m + n)=fpow a m * fpow a n:=by
 induction n with
 | zero => show fpow a m=fpow a m * 1; grind -lia -linarith
 | succ n ih => show fpow a (m + n) * a=fpow a m * (fpow a n * a); rw [ih]; grind -lia -linarith
theorem fpow_mul (a b:F) (n:Nat):fpow (a * b) n=fpow a n * fpow b n:=by
 induction n with
 | zero => show (1:F)=1 * 1; grind -lia -linarith
 | succ n ih => show fpow (a * b) n * (a * b)=fpow a n * a * (fpow b n * b); rw [ih]; grind -lia -linarith
attribute [irreducible] fpow
def eH:Nat:=28948022309329048855892746252171976963317496166410141009864396001978282409974
def eR:Nat:=7237005577332262213973186563042994240829374041602535252466099000494570602494
theorem eH_two:eH + eH=P - 1:=by decide
theorem pos_H:eH < 2 ^ 256:=by decide
theorem disc_H:pmod P 256 236839902240 eH=P - 1:=by decide +kernel
attribute [irreducible] eH eR
theorem fpow_ord {a:F} (h:a ≠ 0):fpow a (P - 1)=1:=by
 apply Fin.ext
 rw [fpow_val]
 show a.val ^ (P - 1) % P=1 % P
 apply fermat_one prime_P
 intro hd
 apply h
 apply Fin.ext
 show a.val=0
 rcases Nat.eq_zero_or_pos a.val with h0 | h0
 ·exact h0
 ·have:=Nat.le_of_dvd h0 hd
  have:=a.isLt
  omega
theorem neg_one_val:(-1:F).val=P - 1:=by decide
theorem half_eval {a:F} {n e:Nat} (hn:a.val=n) (he:e < 2 ^ 256) (h:pmod P 256 n e=P - 1):fpow a e=-1:=by
 apply Fin.ext
 rw [fpow_val,neg_one_val,hn,← pmod_eq P 256 n e he,h]
theorem half_of_sq {a r:F} (ha:a ≠ 0) (h:r * r=a):fpow a eH=1:=by
 have hr:r ≠ 0:=by intro h0; apply ha; rw [← h,h0]; grind -lia -linarith
 rw [← h,fpow_mul,← fpow_add,eH_two,fpow_ord hr]
theorem one_ne_neg:(1:F) ≠ -1:=by decide
theorem disc_nsq (r:F):r * r ≠ 236839902240:=by
 intro h
 have h1:=half_of_sq (a:=236839902240) (by decide) h
 have h2:fpow 236839902240 eH=-1:=half_eval (n:=236839902240) (by decide) pos_H disc_H
 exact one_ne_neg (h1.symm.trans h2)
def dblX (X Z:F):F:=(X + Z) * (X + Z) * ((X - Z) * (X - Z))
def dblC (X Z:F):F:=(X + Z) * (X + Z) - (X - Z) * (X - Z)
def dblZ (X Z:F):F:=dblC X Z * ((X - Z) * (X - Z) + 121666 * dblC X Z)
def addX (X1 Z1 X2 Z2:F):F:=(X1 * X2 - Z1 * Z2) * (X1 * X2 - Z1 * Z2)
def addZ (u X1 Z1 X2 Z2:F):F:=u * ((X1 * Z2 - Z1 * X2) * (X1 * Z2 - Z1 * X2))
end Tabn
set_option linter.unusedVariables false
namespace Tabn
abbrev Four:=F × F × F × F
def lstep (u:F) (bit:Nat) (t:Four):Four :=
 if bit=0 then (dblX t.1 t.2.1,dblZ t.1 t.2.1,addX t.1 t.2.1 t.2.2.1 t.2.2.2,addZ u t.1 t.2.1 t.2.2.1 t.2.2.2)
 else (addX t.1 t.2.1 t.2.2.1 t.2.2.2,addZ u t.1 t.2.1 t.2.2.1 t.2.2.2,dblX t.2.2.1 t.2.2.2,dblZ t.2.2.1 t.2.2.2)
def lad (N:Nat) (u:F):Nat→Four
 | 0 => (1,0,u,1)
 | k + 1 => lstep u (N / 2 ^ (254 - k) % 2) (lad N u k)
def Um (N:Nat) (u:F):F:=(lad N u 255).1 * finv (lad N u 255).2.1
end Tabn
set_option linter.unusedVariables false
set_option maxRecDepth 100000
namespace Tabn
theorem lp_0:IsPrime 2551:=prime_of_smallPrime (by decide) (by decide +kernel)
theorem lp_1:IsPrime 1224481:=pock1 (q:=2551) (a:=2) (t:=480) (f:=22) lp_0 (by decide +kernel) (by decide +kernel) (by decide +kernel) (by decide +kernel) (by decide +kernel) (by decide +kernel)
theorem lp_2:IsPrime 3797:=prime_of_smallPrime (by decide) (by decide +kernel)
theorem lp_3:IsPrime 531581:=pock1 (q:=3797) (a:=2) (t:=140) (f:=21) lp_2 (by decide +kernel) (by decide +kernel) (by decide +kernel) (by decide +kernel) (by decide +kernel) (by decide +kernel)
theorem lp_4:IsPrime 1257559732178653:=pock2 (q:=1224481) (q':=531581) (a:=2) (t:=1027014492) (t':=2365697292) (f:=52) lp_1 lp_3 (by decide +kernel) (by decide +kernel) (by decide +kernel) (by decide +kernel) (by decide +kernel) (by decide +kernel) (by decide +kernel) (by decide +kernel) (by decide +kernel)
theorem lp_5:IsPrime 4434155615661930479:=pock1 (q:=1257559732178653) (a:=2) (t:=3526) (f:=63) lp_4 (by decide +kernel) (by decide +kernel) (by decide +kernel) (by decide +kernel) (by decide +kernel) (by decide +kernel)
theorem lp_6:IsPrime 172054593956031949258510691:=pock1 (q:=4434155615661930479) (a:=2) (t:=38802110) (f:=89) lp_5 (by decide +kernel) (by decide +kernel) (by decide +kernel) (by decide +kernel) (by decide +kernel) (by decide +kernel)
theorem lp_7:IsPrime 19757330305831588566944191468367130476339:=pock1 (q:=172054593956031949258510691) (a:=2) (t:=114831751082918) (f:=135) lp_6 (by decide +kernel) (by decide +kernel) (by decide +kernel) (by decide +kernel) (by decide +kernel) (by decide +kernel)
theorem lp_8:IsPrime 276602624281642239937218680557139826668747:=pock1 (q:=19757330305831588566944191468367130476339) (a:=2) (t:=14) (f:=139) lp_7 (by decide +kernel) (by decide +kernel) (by decide +kernel) (by decide +kernel) (by decide +kernel) (by decide +kernel)
theorem lp_9:IsPrime 7237005577332262213973186563042994240857116359379907606001950938285454250989:=pock1 (q:=276602624281642239937218680557139826668747) (a:=2) (t:=26163907866482859529727157400808004) (f:=254) lp_8 (by decide +kernel) (by decide +kernel) (by decide +kernel) (by decide +kernel) (by decide +kernel) (by decide +kernel)
def L:Nat:=7237005577332262213973186563042994240857116359379907606001950938285454250989
theorem prime_L:IsPrime L:=lp_9
set_option maxRecDepth 512
theorem Pt.mul_gcd {C:Crv} {p:Pt C}:∀ m n,Pt.mul m p=Pt.zero C→Pt.mul n p=Pt.zero C→Pt.mul (Nat.gcd m n) p=Pt.zero C:=by
 intro m n
 induction m,n using Nat.gcd.induction with
 | H0 n => intro _ h; rw [Nat.gcd_zero_left]; exact h
 | H1 m n hm ih =>
  intro h1 h2
  rw [Nat.gcd_rec]
  apply ih _ h1
  have e:n=(n / m) * m + n % m:=by rw [Nat.mul_comm]; exact (Nat.div_add_mod n m).symm
  rw [e,Pt.add_mul,Pt.mul_mul,h1,Pt.mul_zero,Pt.zero_add] at h2
  exact h2
end Tabn
set_option linter.unusedVariables false
set_option linter.unusedSimpArgs false
namespace Tabn
def iR:F:=19681161376707505956807079304988542015446066515923890162744021073123829784752
theorem iR_sq:iR * iR=-1:=by decide +kernel
def c665:F:=121665
def c666:F:=121666
theorem c666_ne:c666 ≠ 0:=by decide
theorem c_disc:16 * c665 * c666=236839902240:=by decide
def dT:F:=0 - c665 * finv c666
theorem dT_eq:dT * c666=0 - c665:=by
 have h:=finv_mul c666_ne
 unfold dT
 generalize finv c666=u at *
 generalize c666=v at *
 generalize c665=w at *
 grind -lia -linarith
theorem dT_nsq (s:F):s * s ≠ dT:=by
 intro h
 have h1:=dT_eq
 have h2:=iR_sq
 have h3:=c_disc
 refine disc_nsq (4 * (s * c666 * iR)) ?_
 rw [← h3]
 rw [← h] at h1
 generalize c666=v at *
 generalize c665=w at *
 generalize iR=i at *
 grind -lia -linarith
attribute [irreducible] iR c665 c666 dT
def CT:Crv:=⟨-1,dT,iR,iR_sq,by decide,dT_nsq⟩
structure Ex (p:Pt CT) (x y z t:F):Prop where
 z0:z ≠ 0
 x:x=p.x * z
 y:y=p.y * z
 t:t=p.x * p.y * z
theorem two_ne':(2:F) ≠ 0:=by decide
theorem ex_alg {px py qx qy sx sy d z1 z2:F} (hx:sx * (1 + d * px * qx * py * qy)=px * qy + qx * py) (hy:sy * (1 - d * px * qx * py * qy)=py * qy - -1 * px * qx) :
  (py * z1 + px * z1) * (qy * z2 + qx * z2) - (py * z1 - px * z1) * (qy * z2 - qx * z2)=2 * (z1 * z2) * (sx * (1 + d * px * qx * py * qy)) ∧
  (py * z1 + px * z1) * (qy * z2 + qx * z2) + (py * z1 - px * z1) * (qy * z2 - qx * z2)=2 * (z1 * z2) * (sy * (1 - d * px * qx * py * qy)) ∧
  z1 * z2 + z1 * z2 - px * py * z1 * (qx * qy * z2) * (d + d)=2 * (z1 * z2) * (1 - d * px * qx * py * qy) ∧
  z1 * z2 + z1 * z2 + px * py * z1 * (qx * qy * z2) * (d + d)=2 * (z1 * z2) * (1 + d * px * qx * py * qy):=by
 refine ⟨?_,?_,?_,?_⟩ <;> grind -lia -linarith
theorem al20 (w s u v:F):w * (s * u) * (w * v)=s * (w * v * (w * u)):=by grind -lia -linarith
theorem al21 (w s u v:F):w * u * (w * (s * v))=s * (w * v * (w * u)):=by grind -lia -linarith
theorem al22 (w s r u v:F):w * (s * u) * (w * (r * v))=s * r * (w * v * (w * u)):=by grind -lia -linarith
theorem ex_add {p q:Pt CT} {x1 y1 z1 t1 x2 y2 z2 t2:F} (h:Ex p x1 y1 z1 t1) (h':Ex q x2 y2 z2 t2) :
  Ex (p.add q) (((y1 + x1) * (y2 + x2) - (y1 - x1) * (y2 - x2)) * (z1 * z2 + z1 * z2 - t1 * t2 * (dT + dT)))
   ((z1 * z2 + z1 * z2 + t1 * t2 * (dT + dT)) * ((y1 + x1) * (y2 + x2) + (y1 - x1) * (y2 - x2)))
   ((z1 * z2 + z1 * z2 - t1 * t2 * (dT + dT)) * (z1 * z2 + z1 * z2 + t1 * t2 * (dT + dT)))
   (((y1 + x1) * (y2 + x2) - (y1 - x1) * (y2 - x2)) * ((y1 + x1) * (y2 + x2) + (y1 - x1) * (y2 - x2))):=by
 obtain ⟨a0,rfl,rfl,rfl⟩:=h
 obtain ⟨b0,rfl,rfl,rfl⟩:=h'
 have ax:=add_x p q
 have ay:=add_y p q
 have n1:=CT.dp p.on q.on
 have n2:=CT.dm p.on q.on
 have hd:CT.d=dT:=rfl
 have ha:CT.a=-1:=rfl
 rw [hd] at ax ay n1 n2
 rw [ha] at ay
 obtain ⟨e1,e2,e3,e4⟩:=ex_alg (z1:=z1) (z2:=z2) ax ay
 rw [e1,e2,e3,e4]
 have hz:2 * (z1 * z2) ≠ 0:=fmul_ne two_ne' (fmul_ne a0 b0)
 refine ⟨fmul_ne (fmul_ne hz n2) (fmul_ne hz n1),?_,?_,?_⟩
 ·exact al20 _ _ _ _
 ·exact al21 _ _ _ _
 ·exact al22 _ _ _ _ _
structure Pj (p:Pt CT) (x y z:F):Prop where
 z0:z ≠ 0
 x:x=p.x * z
 y:y=p.y * z
theorem pj_alg {px py qx qy sx sy d z1 z2:F} (hx:sx * (1 + d * px * qx * py * qy)=px * qy + qx * py) (hy:sy * (1 - d * px * qx * py * qy)=py * qy - -1 * px * qx) :
  px * z1 * (qy * z2) + qx * z2 * (py * z1)=(z1 * z2) * (sx * (1 + d * px * qx * py * qy)) ∧
  py * z1 * (qy * z2) + px * z1 * (qx * z2)=(z1 * z2) * (sy * (1 - d * px * qx * py * qy)) ∧
  z1 * z2 * (z1 * z2) + d * (px * z1 * (qx * z2) * (py * z1 * (qy * z2)))=(z1 * z2) * (z1 * z2) * (1 + d * px * qx * py * qy) ∧
  z1 * z2 * (z1 * z2) - d * (px * z1 * (qx * z2) * (py * z1 * (qy * z2)))=(z1 * z2) * (z1 * z2) * (1 - d * px * qx * py * qy):=by
 refine ⟨?_,?_,?_,?_⟩ <;> grind -lia -linarith
theorem al23 (w s u v:F):w * (s * u) * w * (w * w * v)=s * (w * w * u * (w * w * v)):=by grind -lia -linarith
theorem al24 (w s u v:F):w * (s * v) * w * (w * w * u)=s * (w * w * u * (w * w * v)):=by grind -lia -linarith
theorem pj_add {p q:Pt CT} {x1 y1 z1 x2 y2 z2:F} (h:Pj p x1 y1 z1) (h':Pj q x2 y2 z2) :
  Pj (p.add q) ((x1 * y2 + x2 * y1) * (z1 * z2) * (z1 * z2 * (z1 * z2) - dT * (x1 * x2 * (y1 * y2))))
   ((y1 * y2 + x1 * x2) * (z1 * z2) * (z1 * z2 * (z1 * z2) + dT * (x1 * x2 * (y1 * y2))))
   ((z1 * z2 * (z1 * z2) + dT * (x1 * x2 * (y1 * y2))) * (z1 * z2 * (z1 * z2) - dT * (x1 * x2 * (y1 * y2)))):=by
 obtain ⟨a0,rfl,rfl⟩:=h
 obtain ⟨b0,rfl,rfl⟩:=h'
 have ax:=add_x p q
 have ay:=add_y p q
 have n1:=CT.dp p.on q.on
 have n2:=CT.dm p.on q.on
 have hd:CT.d=dT:=rfl
 have ha:CT.a=-1:=rfl
 rw [hd] at ax ay n1 n2
 rw [ha] at ay
 obtain ⟨e1,e2,e3,e4⟩:=pj_alg (z1:=z1) (z2:=z2) ax ay
 rw [e1,e2,e3,e4]
 have hz:z1 * z2 ≠ 0:=fmul_ne a0 b0
 refine ⟨fmul_ne (fmul_ne (fmul_ne hz hz) n1) (fmul_ne (fmul_ne hz hz) n2),?_,?_⟩
 ·exact al23 _ _ _ _
 ·exact al24 _ _ _ _
theorem over {a z:F} (hz:z ≠ 0):a * z * finv z=a:=by
 have:=finv_mul hz
 generalize finv z=u at *
 grind -lia -linarith
theorem mul0' (z:F):z * 0=0:=by grind -lia -linarith
theorem one_ne_zero':(1:F) ≠ 0:=by decide
theorem den_ne (y:F):dT * (y * y) + 1 ≠ 0:=by
 intro h
 have h2:=iR_sq
 by_cases hy:y=0
 ·rw [hy] at h
  have e1:(0:F) * 0=0:=by decide
  have e2:(0:F) + 1=1:=by decide
  rw [e1,mul0',e2] at h
  exact absurd h one_ne_zero'
 ·refine nsq_of CT hy (p:=iR) ?_
  show iR ^ 2=dT * y ^ 2
  generalize dT=d at *
  generalize iR=i at *
  grind -lia -linarith
theorem on_iff {x y:F}:On CT x y↔x * x=(y * y - 1) * finv (dT * (y * y) + 1):=by
 have hd:CT.d=dT:=rfl
 have ha:CT.a=-1:=rfl
 unfold On
 rw [hd,ha]
 have h:=finv_mul (den_ne y)
 constructor
 ·intro h1
  refine fdiv_of (den_ne y) ?_
  generalize dT=d at *
  grind -lia -linarith
 ·intro h1
  have h2:=fdiv (den_ne y) h1
  generalize dT=d at *
  clear h h1
  grind -lia -linarith
theorem neg_val {x:F} (h:x ≠ 0):(-x).val=P - x.val:=by
 have h0:x.val ≠ 0:=fun e => h (Fin.ext e)
 have:=x.isLt
 rw [Fin.val_neg']
 exact Nat.mod_eq_of_lt (by omega)
theorem sq_pm {x y:F} (h:x * x=y * y):x=y ∨ x=-y:=by
 have h1:(x - y) * (x + y)=0:=by grind -lia -linarith
 rcases fmul_zero h1 with h2 | h2
 ·left; grind -lia -linarith
 ·right; grind -lia -linarith
theorem P_odd:P % 2=1:=by decide
theorem par_eq {x y:F} (h:x * x=y * y) (hp:x.val % 2=y.val % 2):x=y:=by
 rcases sq_pm h with h1 | h1
 ·exact h1
 ·by_cases hy:y=0
  ·rw [h1,hy]; decide
  ·exfalso
   have h2:=neg_val hy
   rw [← h1] at h2
   have:=y.isLt
   have:=P_odd
   omega
def encN (p:Pt CT):Nat:=p.y.val + p.x.val % 2 * 2 ^ 255
theorem encN_inj {p q:Pt CT} (h:encN p=encN q):p=q:=by
 unfold encN at h
 have h1:=p.y.isLt
 have h2:=q.y.isLt
 have h3:P < 2 ^ 255:=by decide
 have hy:p.y.val=q.y.val:=by omega
 have hp:p.x.val % 2=q.x.val % 2:=by omega
 have hy':p.y=q.y:=Fin.ext hy
 refine Pt.eq (par_eq ?_ hp) hy'
 rw [on_iff.1 p.on,on_iff.1 q.on,hy']
end Tabn
set_option linter.unusedVariables false
set_option linter.unusedSimpArgs false
set_option maxRecDepth 100000
namespace Tabn
def dL:F:=37095705934669439343138083508754565189542113879843219016388785533085940283555
theorem dL_eq:dL * 121666=0 - 121665:=by decide +kernel
theorem c_lits:c665=121665∧c666=121666:=by unfold c665 c666; exact ⟨rfl,rfl⟩
theorem dT_lit:dT=dL:=by
 have h1:=dT_eq
 have h2:=dL_eq
 rw [c_lits.1,c_lits.2] at h1
 refine fcancel (a:=121666) (by decide) ?_
 rw [← h2] at h1
 generalize dL=v at *
 generalize dT=u at *
 clear h2
 grind -lia -linarith
def xB:F:=15112221349535400772501151409588531511454012693041857206046113283949847762202
def yB:F:=46316835694926478169428394003475163141307993866256225615783033603165251855960
theorem on_lit:xB * xB * (dL * (yB * yB) + 1)=yB * yB - 1:=by decide +kernel
theorem on_B:On CT xB yB:=by
 refine on_iff.2 (fdiv_of (den_ne yB) ?_)
 rw [dT_lit]
 exact on_lit
def BT:Pt CT:=⟨xB,yB,on_B⟩
abbrev Trip:=F × F × F
def pjA (p q:Trip):Trip :=
 ((p.1 * q.2.1 + q.1 * p.2.1) * (p.2.2 * q.2.2) * (p.2.2 * q.2.2 * (p.2.2 * q.2.2) - dL * (p.1 * q.1 * (p.2.1 * q.2.1))),
  (p.2.1 * q.2.1 + p.1 * q.1) * (p.2.2 * q.2.2) * (p.2.2 * q.2.2 * (p.2.2 * q.2.2) + dL * (p.1 * q.1 * (p.2.1 * q.2.1))),
  (p.2.2 * q.2.2 * (p.2.2 * q.2.2) + dL * (p.1 * q.1 * (p.2.1 * q.2.1))) * (p.2.2 * q.2.2 * (p.2.2 * q.2.2) - dL * (p.1 * q.1 * (p.2.1 * q.2.1))))
def tstep (b:Nat) (r:Trip):Trip:=if b=0 then pjA r r else pjA (pjA r r) (xB,yB,1)
def tm (N:Nat):Nat→Trip
 | 0 => (0,1,1)
 | k + 1 => tstep (N / 2 ^ (255 - k) % 2) (tm N k)
def tmFrom (N k0:Nat) (r:Trip):Nat→Trip
 | 0 => r
 | j + 1 => tstep (N / 2 ^ (255 - (k0 + j)) % 2) (tmFrom N k0 r j)
theorem tm_from (N k0:Nat):∀ j,tm N (k0 + j)=tmFrom N k0 (tm N k0) j
 | 0 => rfl
 | j + 1 => by
  show tstep (N / 2 ^ (255 - (k0 + j)) % 2) (tm N (k0 + j))=tstep _ (tmFrom N k0 (tm N k0) j)
  rw [tm_from N k0 j]
theorem tm_step {N k0:Nat} {r s:Trip} {j:Nat} (h:tm N k0=r) (h':tmFrom N k0 r j=s):tm N (k0 + j)=s:=by rw [tm_from,h,h']
def PjT (p:Pt CT) (r:Trip):Prop:=Pj p r.1 r.2.1 r.2.2
theorem pjA_R {p q:Pt CT} {r s:Trip} (h:PjT p r) (h':PjT q s):PjT (p.add q) (pjA r s):=by
 have:=pj_add h h'
 rw [dT_lit] at this
 exact this
theorem mul1' (x:F):x=x * 1:=by grind -lia -linarith
theorem mul0z (z:F):0=0 * z:=by grind -lia -linarith
theorem pj_zero:PjT (Pt.zero CT) (0,1,1):=⟨one_ne_zero',mul0z 1,mul1' 1⟩
theorem pj_B:PjT BT (xB,yB,1):=⟨one_ne_zero',mul1' _,mul1' _⟩
theorem half_bits (N k:Nat) (hk:k < 256):N / 2 ^ (256 - (k + 1))=2 * (N / 2 ^ (256 - k)) + N / 2 ^ (255 - k) % 2:=by
 have e:256 - k=(255 - k) + 1:=by omega
 rw [show 256 - (k + 1)=255 - k by omega,e,Nat.pow_succ,← Nat.div_div_eq_div_mul]
 omega
theorem tm_pj (N:Nat) (hN:N < 2 ^ 256):∀ k,k≤256→PjT (Pt.mul (N / 2 ^ (256 - k)) BT) (tm N k):=by
 intro k
 induction k with
 | zero =>
  intro _
  rw [Nat.sub_zero,Nat.div_eq_of_lt hN]
  exact pj_zero
 | succ k ih =>
  intro hk
  have ih:=ih (by omega)
  rw [half_bits N k (by omega),Nat.two_mul,Nat.add_assoc,Pt.add_mul]
  show PjT _ (tstep (N / 2 ^ (255 - k) % 2) (tm N k))
  generalize N / 2 ^ (256 - k)=m at *
  generalize tm N k=r at *
  unfold tstep
  rcases Nat.mod_two_eq_zero_or_one (N / 2 ^ (255 - k)) with h | h
  ·rw [h,if_pos rfl]
   exact pjA_R ih ih
  ·rw [h,if_neg (by decide),Pt.add_mul,Pt.mul_one,← Pt.add_assoc]
   exact pjA_R (pjA_R ih ih) pj_B
theorem tm_all {N:Nat} (hN:N < 2 ^ 256):PjT (Pt.mul N BT) (tm N 256):=by
 have:=tm_pj N hN 256 (Nat.le_refl _)
 rwa [Nat.sub_self,Nat.pow_zero,Nat.div_one] at this
theorem fcancel_r {a b z:F} (hz:z ≠ 0) (h:a * z=b * z):a=b:=by
 refine fcancel hz ?_
 clear hz
 grind -lia -linarith
theorem tm_lit {N:Nat} (hN:N < 2 ^ 256) {x y:F} (h:(tm N 256).1=x * (tm N 256).2.2∧(tm N 256).2.1=y * (tm N 256).2.2):(Pt.mul N BT).x=x∧(Pt.mul N BT).y=y:=by
 obtain ⟨z0,hx,hy⟩:=tm_all hN
 exact ⟨fcancel_r z0 (hx.symm.trans h.1),fcancel_r z0 (hy.symm.trans h.2)⟩
theorem tmL:(tm L 256).1=0 * (tm L 256).2.2∧(tm L 256).2.1=1 * (tm L 256).2.2:=by decide +kernel
theorem L_lt2:L < 2 ^ 256:=by decide
theorem mul_L:Pt.mul L BT=Pt.zero CT:=by
 obtain ⟨h1,h2⟩:=tm_lit L_lt2 tmL
 exact Pt.eq h1 h2
theorem B_ne:BT ≠ Pt.zero CT:=by
 intro h
 have h1:=congrArg Pt.y h
 exact absurd (show yB=1 from h1) (by decide +kernel)
theorem mul_mod (N:Nat):Pt.mul (N % L) BT=Pt.mul N BT:=by
 have e:N=(N / L) * L + N % L:=by rw [Nat.mul_comm]; exact (Nat.div_add_mod N L).symm
 have h:Pt.mul N BT=Pt.mul ((N / L) * L + N % L) BT:=congrArg (fun n => Pt.mul n BT) e
 rw [h,Pt.add_mul,Pt.mul_mul,mul_L,Pt.mul_zero,Pt.zero_add]
theorem ord_B {m:Nat} (h:Pt.mul m BT=Pt.zero CT):L ∣ m:=by
 have h1:=Pt.mul_gcd L m mul_L h
 have h2:Nat.gcd L m ∣ L:=Nat.gcd_dvd_left L m
 rcases prime_L.2 _ h2 with h3 | h3
 ·rw [h3,Pt.mul_one] at h1
  exact absurd h1 B_ne
 ·rw [← h3]; exact Nat.gcd_dvd_right L m
end Tabn
set_option linter.unusedVariables false
set_option linter.unusedSimpArgs false
namespace Tabn
def xxOf (y:F):F:=(y * y - 1) * finv (dT * (y * y) + 1)
def xOf (r:F) (h:Nat):F:=if r.val % 2=h then r else 0 - r
def isRoot (rt:F→F):Prop:=∀ s,rt (s * s) * rt (s * s)=s * s
def RdOk (rt:F→F) (n:Nat):Prop :=
 n % 2 ^ 255 < P∧rt (xxOf (Fin.ofNat P (n % 2 ^ 255))) * rt (xxOf (Fin.ofNat P (n % 2 ^ 255)))=xxOf (Fin.ofNat P (n % 2 ^ 255))∧¬ (rt (xxOf (Fin.ofNat P (n % 2 ^ 255)))=0∧n / 2 ^ 255=1)
theorem zero_sub' (r:F):0 - r=-r:=by grind -lia -linarith
theorem neg_sq (r:F):(0 - r) * (0 - r)=r * r:=by grind -lia -linarith
theorem xOf_sq (r:F) (h:Nat):xOf r h * xOf r h=r * r:=by
 unfold xOf
 split
 ·rfl
 ·exact neg_sq r
theorem xOf_par {r:F} {h:Nat} (hh:h < 2) (h0:¬ (r=0∧h=1)):(xOf r h).val % 2=h:=by
 unfold xOf
 split
 ·rename_i e; exact e
 ·rename_i e
  by_cases hr:r=0
  ·exfalso
   rw [hr] at e
   have:(0:F).val % 2=0:=rfl
   apply h0
   exact ⟨hr,by omega⟩
  ·rw [zero_sub',neg_val hr]
   have:=r.isLt
   have:=P_odd
   omega
theorem two255:P < 2 ^ 255:=by decide
theorem rd_point {rt:F→F} {n:Nat} (hn:n < 2 ^ 256) (h:RdOk rt n):∃ p:Pt CT,encN p=n∧p.y=Fin.ofNat P (n % 2 ^ 255)∧p.x=xOf (rt (xxOf (Fin.ofNat P (n % 2 ^ 255)))) (n / 2 ^ 255):=by
 obtain ⟨h1,h2,h3⟩:=h
 have hh:n / 2 ^ 255 < 2:=by omega
 refine ⟨⟨xOf (rt (xxOf (Fin.ofNat P (n % 2 ^ 255)))) (n / 2 ^ 255),Fin.ofNat P (n % 2 ^ 255),on_iff.2 ?_⟩,?_,rfl,rfl⟩
 ·rw [xOf_sq,h2]
  rfl
 ·unfold encN
  simp only
  rw [xOf_par hh h3]
  have:(Fin.ofNat P (n % 2 ^ 255)).val=n % 2 ^ 255:=Nat.mod_eq_of_lt h1
  rw [this]
  omega
theorem rd_only {rt:F→F} (hr:isRoot rt) (p:Pt CT):RdOk rt (encN p):=by
 have h1:=p.y.isLt
 have h2:=two255
 have e1:encN p % 2 ^ 255=p.y.val:=by unfold encN; omega
 have e2:encN p / 2 ^ 255=p.x.val % 2:=by unfold encN; omega
 have e3:Fin.ofNat P p.y.val=p.y:=Fin.ext (Nat.mod_eq_of_lt h1)
 have e4:xxOf p.y=p.x * p.x:=(on_iff.1 p.on).symm
 unfold RdOk
 rw [e1,e2,e3,e4]
 refine ⟨h1,hr _,?_⟩
 rintro ⟨h3,h4⟩
 have h5:=hr p.x
 rw [h3] at h5
 have h6:p.x=0:=by
  rcases fmul_zero (h5.symm.trans (show (0:F) * 0=0 by decide)) with h | h <;> exact h
 rw [h6] at h4
 exact absurd h4 (by decide)
theorem encN_lt (p:Pt CT):encN p < 2 ^ 256:=by
 have h1:=p.y.isLt
 have h2:=two255
 unfold encN
 omega
theorem base_y:(4:F) * finv 5=yB:=by
 refine (fdiv_of (by decide) ?_).symm
 decide +kernel
theorem base_enc:encN BT=yB.val:=by
 show yB.val + xB.val % 2 * 2 ^ 255=yB.val
 have:xB.val % 2=0:=by decide +kernel
 rw [this]
 omega
end Tabn
set_option linter.unusedVariables false
set_option linter.unusedSimpArgs false
set_option maxRecDepth 4000
namespace Go.Vm
open Go
theorem mixed:Go.Proofs.Tryd.prog.follows .mixedOrders=true:=by kernel_rfl
theorem K48 {G:Globs}:Known Go.Proofs.Tryd.prog G 54 ⟨[.val,.val,.val],0,specAdd64⟩:=known_add64 (fn:=Go.Proofs.Tryd.f54) (by kernel_rfl) (by kernel_rfl) (by kernel_rfl) rfl rfl
theorem KS64 {G:Globs}:Known Go.Proofs.Tryd.prog G 64 ⟨[.val,.val,.val],0,specSub64⟩:=known_sub64 (fn:=Go.Proofs.Tryd.f64) (by kernel_rfl) (by kernel_rfl) (by kernel_rfl) rfl rfl (fun _ _ _ => ⟨rfl,rfl⟩)
def gOrder:List Int:=[6346243789798364141,1503914060200516822,0,1152921504606846976]
def gStarts:List Int:=[7640891576956012808,13503953896175478587,4354685564936845355,11912009170470909681,5840696475078001361,11170449401992604703,2270897969802886507,6620516959819538809]
def gSteps:List Int:=[4794697086780616226,8158064640168781261,13096744586834688815,16840607885511220156,4131703408338449720,6480981068601479193,10538285296894168987,12329834152419229976,15566598209576043074,1334009975649890238,2608012711638119052,6128411473006802146,8268148722764581231,9286055187155687089,11230858885718282805,13951009754708518548,16472876342353939154,17275323862435702243,1135362057144423861,2597628984639134821,3308224258029322869,5365058923640841347,6679025012923562964,8573033837759648693,10970295158949994411,12119686244451234320,12683024718118986047,13788192230050041572,14330467153632333762,15395433587784984357,489312712824947311,1452737877330783856,2861767655752347644,3322285676063803686,5560940570517711597,5996557281743188959,7280758554555802590,8532644243296465576,9350256976987008742,10552545826968843579,11727347734174303076,12113106623233404929,14000437183269869457,14369950271660146224,15101387698204529176,15463397548674623760,17586052441742319658,1182934255886127544,1847814050463011016,2177327727835720531,2830643537854262169,3796741975233480872,4115178125766777443,5681478168544905931,6601373596472566643,7507060721942968483,8399075790359081724,8693463985226723168,9568029438360202098,10144078919501101548,10430055236837252648,11840083180663258601,13761210420658862357,14299343276471374635,14566680578165727644,15097957966210449927,16922976911328602910,17689382322260857208,500013540394364858,748580250866718886,1242879168328830382,1977374033974150939,2944078676154940804,3659926193048069267,4368137639120453308,4836135668995329356,5532061633213252278,6448918945643986474,6902733635092675308,7801388544844847127]
noncomputable def gD:Globs:=fun g => bif Nat.beq g 0 then some (.u64,gOrder) else bif Nat.beq g 1 then some (.u64,gStarts) else bif Nat.beq g 2 then some (.u64,gSteps) else none
noncomputable def F45l0 (k0:Nat) (z0:Int × List Int):Int × List Int :=
 ((iShr .u64 ((z0.2.set k0 (iAdd .u64 (z0.2.getD k0 0) z0.1)).getD k0 0) 51),(z0.2.set k0 (iAdd .u64 (z0.2.getD k0 0) z0.1)).set k0 (iAnd .u64 ((z0.2.set k0 (iAdd .u64 (z0.2.getD k0 0) z0.1)).getD k0 0) 2251799813685247))
noncomputable def F45 (p0:List Int):List Int :=
 ((itr (F45l0) 5 (0,p0)).2).set 0 (iAdd .u64 (((itr (F45l0) 5 (0,p0)).2).getD 0 0) (iMul .u64 19 ((itr (F45l0) 5 (0,p0)).1)))
noncomputable def S45:List AV→Option (Prop × Ret)
 | [.ints .u64 5 p0] => some (True,⟨.ints .u64 5 (F45 p0),[]⟩)
 | _ => none
noncomputable def B45:Bs:={ P:=Go.Proofs.Tryd.prog,G:=gD,tab:=tabOf [],n:=38 }
theorem B45.ok:B45.Ok:=⟨tabOk (P:=Go.Proofs.Tryd.prog) (G:=gD) (l:=[]) True.intro,mixed⟩
theorem K45:Known Go.Proofs.Tryd.prog gD 65 ⟨[.val],0,S45⟩:=by
 refine Known.walk (B:=B45) (fn:=Go.Proofs.Tryd.f65) B45.ok (by kernel_rfl) rfl (by kernel_rfl) (by kernel_rfl) (by decide) ?_ ?_
 ·intro vs C r h
  simp only at h
  unfold S45 at h
  split at h
  ·cases h; rfl
  ·cases h
 ·intro E args C r h hC hlen
  simp only at h
  unfold S45 at h
  split at h
  rotate_left
  ·cases h
  rename_i p0
  cases h
  simp only [lens] at hlen
  refine ⟨show 1≤38 from by decide,?_⟩
  refine Tri.sub (Sub.of_eq (show _=([(0,.ints .u64 5 p0)],[]) from rfl)) ?_
  refine sr [] none [2,1] [16,0] (TT∧(TT∧True))
    ([(2,qp 16 0),(1,qp 0 0)],[(16,.ints .u64 5 [0,0,0,0,0]),(0,.ints .u64 5 p0)])
    32 (⟨tt,⟨tt,trivial⟩⟩) ?_
  refine sr [] none [3,2,1] [16,0] (TT∧True)
    ([(3,.sc (.i .u64 0)),(2,qp 16 0),(1,qp 0 0)],[(16,.ints .u64 5 [0,0,0,0,0]),(0,.ints .u64 5 p0)])
    48 (⟨tt,trivial⟩) ?_
  refine Tri.seq ?_
  refine sr [] none [5,3,2,1] [16,0] (TT∧True)
    ([(5,qi 0),(3,.sc (.i .u64 0)),(2,qp 16 0),(1,qp 0 0)],[(16,.ints .u64 5 [0,0,0,0,0]),(0,.ints .u64 5 p0)])
    64 (⟨tt,trivial⟩) ?_
  refine Tri.block ?_
  refine Tri.count 64 5 (F45l0) (0,p0) (fun k0 z0 => True) (fun k0 z0 => ([(5,qi (k0:Int)),(3,.sc (.i .u64 z0.1)),(2,qp 16 0),(1,qp 0 0)],[(16,.ints .u64 5 [0,0,0,0,0]),(0,.ints .u64 5 z0.2)])) trivial (Sub.of_eq (by kernel_rfl)) ?_
  intro k0 z0 hk0 hz0 hJ0
  refine sr [] none [6,5,3,2,1] [16,0] (TT∧True)
    ([(6,.sc (.b (decide (((k0:Int):Int) < 5)))),(5,qi (k0:Int)),(3,.sc (.i .u64 z0.1)),(2,qp 16 0),(1,qp 0 0)],[(16,.ints .u64 5 [0,0,0,0,0]),(0,.ints .u64 5 z0.2)])
    80 (⟨tt,trivial⟩) ?_
  refine Tri.seq ?_
  refine Tri.cond (x:=(decide (((k0:Int):Int) < 5))) (by kernel_rfl) (fun h1 => ?_) (fun h1 => ?_)
  ·
   have h1':=of_decide_eq_true h1
   refine Tri.skip ?_
   change Tri _ _ _ _ _ _
   refine Tri.seq ?_
   refine Tri.block ?_
   refine sr [] none [4,5,3,2,1] [16,0] (TT∧(TT∧True))
     ([(4,qi (k0:Int)),(5,qi (k0:Int)),(3,.sc (.i .u64 z0.1)),(2,qp 16 0),(1,qp 0 0)],[(16,.ints .u64 5 [0,0,0,0,0]),(0,.ints .u64 5 z0.2)])
     112 (⟨tt,⟨tt,trivial⟩⟩) ?_
   refine sr [] none [4,5,2,1] [0,16] (TT∧(TT∧((((0:Int)≤(k0:Int)∧(k0:Int) < ((5:Nat):Int))∧True)∧(((k0 < 5)∧True)∧(TT∧(TT∧(TT∧((((0:Int)≤(k0:Int)∧(k0:Int) < ((5:Nat):Int))∧True)∧((((k0 < 5)∧(1=1))∧True)∧True)))))))))
     ([(4,qi (k0:Int)),(5,qi (k0:Int)),(2,qp 16 0),(1,qp 0 0)],[(0,.ints .u64 5 (z0.2.set k0 (iAdd .u64 (z0.2.getD k0 0) z0.1))),(16,.ints .u64 5 [0,0,0,0,0])])
     256 (⟨tt,⟨tt,⟨⟨(by omega),trivial⟩,⟨⟨(by omega),trivial⟩,⟨tt,⟨tt,⟨tt,⟨⟨(by omega),trivial⟩,⟨⟨⟨(by omega),(rfl)⟩,trivial⟩,trivial⟩⟩⟩⟩⟩⟩⟩⟩⟩) ?_
   refine sr [] none [3,4,5,2,1] [0,16] (TT∧(TT∧((((0:Int)≤(k0:Int)∧(k0:Int) < ((5:Nat):Int))∧True)∧(((k0 < 5)∧True)∧((((0:Int)≤51)∧True)∧(TT∧True))))))
     ([(3,.sc (.i .u64 (iShr .u64 ((z0.2.set k0 (iAdd .u64 (z0.2.getD k0 0) z0.1)).getD k0 0) 51))),(4,qi (k0:Int)),(5,qi (k0:Int)),(2,qp 16 0),(1,qp 0 0)],[(0,.ints .u64 5 (z0.2.set k0 (iAdd .u64 (z0.2.getD k0 0) z0.1))),(16,.ints .u64 5 [0,0,0,0,0])])
     352 (⟨tt,⟨tt,⟨⟨(by omega),trivial⟩,⟨⟨(by omega),trivial⟩,⟨⟨(by omega),trivial⟩,⟨tt,trivial⟩⟩⟩⟩⟩⟩) ?_
   refine rr [] none [3,5,2,1] [0,16] (TT∧(TT∧((((0:Int)≤(k0:Int)∧(k0:Int) < ((5:Nat):Int))∧True)∧(((k0 < 5)∧True)∧(TT∧(TT∧((((0:Int)≤(k0:Int)∧(k0:Int) < ((5:Nat):Int))∧True)∧((((k0 < 5)∧(1=1))∧True)∧True))))))))
     ([(3,.sc (.i .u64 (iShr .u64 ((z0.2.set k0 (iAdd .u64 (z0.2.getD k0 0) z0.1)).getD k0 0) 51))),(5,qi (k0:Int)),(2,qp 16 0),(1,qp 0 0)],[(0,.ints .u64 5 ((z0.2.set k0 (iAdd .u64 (z0.2.getD k0 0) z0.1)).set k0 (iAnd .u64 ((z0.2.set k0 (iAdd .u64 (z0.2.getD k0 0) z0.1)).getD k0 0) 2251799813685247))),(16,.ints .u64 5 [0,0,0,0,0])])
     480 (⟨tt,⟨tt,⟨⟨(by omega),trivial⟩,⟨⟨(by omega),trivial⟩,⟨tt,⟨tt,⟨⟨(by omega),trivial⟩,⟨⟨⟨(by omega),(rfl)⟩,trivial⟩,trivial⟩⟩⟩⟩⟩⟩⟩⟩) ?_
   change Tri _ _ _ _ _ _
   refine rr [(28,.i .i64 ((k0 + 1:Nat):Int))] none [5,3,2,1] [0,16] ((True∧((iAdd .i64 (k0:Int) 1)=((k0 + 1:Nat):Int)))∧(TT∧True))
     ([(5,qi ((k0 + 1:Nat):Int)),(3,.sc (.i .u64 (iShr .u64 ((z0.2.set k0 (iAdd .u64 (z0.2.getD k0 0) z0.1)).getD k0 0) 51))),(2,qp 16 0),(1,qp 0 0)],[(0,.ints .u64 5 ((z0.2.set k0 (iAdd .u64 (z0.2.getD k0 0) z0.1)).set k0 (iAnd .u64 ((z0.2.set k0 (iAdd .u64 (z0.2.getD k0 0) z0.1)).getD k0 0) 2251799813685247))),(16,.ints .u64 5 [0,0,0,0,0])])
     512 (⟨⟨trivial,(iAdd_nat (a:=k0) (b:=1) (by omega))⟩,⟨tt,trivial⟩⟩) ?_
   refine countP_normal (by omega) trivial ?_
   exact Sub.ren (ns:=[(16,16),(0,0)]) (kf:=[5,3,2,1]) (by kernel_rfl) (by kernel_rfl)
  ·
   have h1':=of_decide_eq_false h1
   refine Tri.exit ?_
   have hend0:k0=5:=by (have:=of_decide_eq_false h1; omega)
   subst hend0; subst hz0
   change Tri _ _ _ _ _ _
   refine sr [] none [2,1] [0,16] (TT∧((((0:Int)≤0∧0 < ((5:Nat):Int))∧True)∧(((0 < 5)∧True)∧(TT∧(TT∧(TT∧(TT∧((((0:Int)≤0∧0 < ((5:Nat):Int))∧True)∧((((0 < 5)∧(1=1))∧True)∧True)))))))))
     ([(2,qp 16 0),(1,qp 0 0)],[(0,.ints .u64 5 (((itr (F45l0) 5 (0,p0)).2).set 0 (iAdd .u64 (((itr (F45l0) 5 (0,p0)).2).getD 0 0) (iMul .u64 19 ((itr (F45l0) 5 (0,p0)).1))))),(16,.ints .u64 5 [0,0,0,0,0])])
     224 (⟨tt,⟨⟨(by omega),trivial⟩,⟨⟨(by omega),trivial⟩,⟨tt,⟨tt,⟨tt,⟨tt,⟨⟨(by omega),trivial⟩,⟨⟨⟨(by omega),(rfl)⟩,trivial⟩,trivial⟩⟩⟩⟩⟩⟩⟩⟩⟩) ?_
   refine sr [] none [2] [16] (TT∧(((True∧(5=5))∧True)∧True))
     ([(2,qp 16 0)],[(16,.ints .u64 5 (((itr (F45l0) 5 (0,p0)).2).set 0 (iAdd .u64 (((itr (F45l0) 5 (0,p0)).2).getD 0 0) (iMul .u64 19 ((itr (F45l0) 5 (0,p0)).1)))))])
     256 (⟨tt,⟨⟨⟨trivial,(rfl)⟩,trivial⟩,trivial⟩⟩) ?_
   refine Tri.ret ?_
   exact endP.ret [] TT (by kernel_rfl) (by kernel_rfl) (by kernel_rfl) tt
noncomputable def F16l0 (p1:List Int) (k0:Nat) (z0:List Int):List Int :=
 z0.set k0 (iAdd .u64 (z0.getD k0 0) (p1.getD k0 0))
noncomputable def F16 (p0:List Int) (p1:List Int):List Int :=
 (F45 (itr (F16l0 p1) 5 p0))
noncomputable def S16:List AV→Option (Prop × Ret)
 | [.ints .u64 5 p0,.ints .u64 5 p1] => some (True,⟨.ints .u64 5 (F16 p0 p1),[]⟩)
 | _ => none
noncomputable def B16:Bs:={ P:=Go.Proofs.Tryd.prog,G:=gD,tab:=tabOf [(65,⟨[.val],0,S45⟩)],n:=23 }
theorem B16.ok:B16.Ok:=⟨tabOk (P:=Go.Proofs.Tryd.prog) (G:=gD) (l:=[(65,⟨[.val],0,S45⟩)]) (And.intro K45 True.intro),mixed⟩
theorem K16:Known Go.Proofs.Tryd.prog gD 39 ⟨[.val,.val],0,S16⟩:=by
 refine Known.walk (B:=B16) (fn:=Go.Proofs.Tryd.f39) B16.ok (by kernel_rfl) rfl (by kernel_rfl) (by kernel_rfl) (by decide) ?_ ?_
 ·intro vs C r h
  simp only at h
  unfold S16 at h
  split at h
  ·cases h; rfl
  ·cases h
 ·intro E args C r h hC hlen
  simp only at h
  unfold S16 at h
  split at h
  rotate_left
  ·cases h
  rename_i p0 p1
  cases h
  simp only [lens] at hlen
  refine ⟨show 2≤23 from by decide,?_⟩
  refine Tri.sub (Sub.of_eq (show _=([(0,.ints .u64 5 p0),(1,.ints .u64 5 p1)],[]) from rfl)) ?_
  refine sr [] none [4,3,2] [32,16,0] (TT∧(TT∧(TT∧True)))
    ([(4,qp 32 0),(3,qp 16 0),(2,qp 0 0)],[(32,.ints .u64 5 [0,0,0,0,0]),(16,.ints .u64 5 p1),(0,.ints .u64 5 p0)])
    48 (⟨tt,⟨tt,⟨tt,trivial⟩⟩⟩) ?_
  refine Tri.seq ?_
  refine sr [] none [6,4,3,2] [32,16,0] (TT∧True)
    ([(6,qi 0),(4,qp 32 0),(3,qp 16 0),(2,qp 0 0)],[(32,.ints .u64 5 [0,0,0,0,0]),(16,.ints .u64 5 p1),(0,.ints .u64 5 p0)])
    64 (⟨tt,trivial⟩) ?_
  refine Tri.block ?_
  refine Tri.count 64 5 (F16l0 p1) p0 (fun k0 z0 => True) (fun k0 z0 => ([(6,qi (k0:Int)),(4,qp 32 0),(3,qp 16 0),(2,qp 0 0)],[(32,.ints .u64 5 [0,0,0,0,0]),(16,.ints .u64 5 p1),(0,.ints .u64 5 z0)])) trivial (Sub.of_eq (by kernel_rfl)) ?_
  intro k0 z0 hk0 hz0 hJ0
  refine sr [] none [7,6,4,3,2] [32,16,0] (TT∧True)
    ([(7,.sc (.b (decide (((k0:Int):Int) < 5)))),(6,qi (k0:Int)),(4,qp 32 0),(3,qp 16 0),(2,qp 0 0)],[(32,.ints .u64 5 [0,0,0,0,0]),(16,.ints .u64 5 p1),(0,.ints .u64 5 z0)])
    80 (⟨tt,trivial⟩) ?_
  refine Tri.seq ?_
  refine Tri.cond (x:=(decide (((k0:Int):Int) < 5))) (by kernel_rfl) (fun h1 => ?_) (fun h1 => ?_)
  ·
   have h1':=of_decide_eq_true h1
   refine Tri.skip ?_
   change Tri _ _ _ _ _ _
   refine Tri.seq ?_
   refine Tri.block ?_
   refine sr [] none [5,6,4,3,2] [32,16,0] (TT∧(TT∧True))
     ([(5,qi (k0:Int)),(6,qi (k0:Int)),(4,qp 32 0),(3,qp 16 0),(2,qp 0 0)],[(32,.ints .u64 5 [0,0,0,0,0]),(16,.ints .u64 5 p1),(0,.ints .u64 5 z0)])
     112 (⟨tt,⟨tt,trivial⟩⟩) ?_
   refine rr [] (some [0,0,3,7,0,0,48,112,255,0,1023,2047]) [6,4,3,2] [0,32,16] (TT∧(TT∧((((0:Int)≤(k0:Int)∧(k0:Int) < ((5:Nat):Int))∧True)∧(((k0 < 5)∧True)∧(TT∧(TT∧((((0:Int)≤(k0:Int)∧(k0:Int) < ((5:Nat):Int))∧True)∧(((k0 < 5)∧True)∧(TT∧(TT∧((((0:Int)≤(k0:Int)∧(k0:Int) < ((5:Nat):Int))∧True)∧((((k0 < 5)∧(1=1))∧True)∧True))))))))))))
     ([(6,qi (k0:Int)),(4,qp 32 0),(3,qp 16 0),(2,qp 0 0)],[(0,.ints .u64 5 (z0.set k0 (iAdd .u64 (z0.getD k0 0) (p1.getD k0 0)))),(32,.ints .u64 5 [0,0,0,0,0]),(16,.ints .u64 5 p1)])
     304 (⟨tt,⟨tt,⟨⟨(by omega),trivial⟩,⟨⟨(by omega),trivial⟩,⟨tt,⟨tt,⟨⟨(by omega),trivial⟩,⟨⟨(by omega),trivial⟩,⟨tt,⟨tt,⟨⟨(by omega),trivial⟩,⟨⟨⟨(by omega),(rfl)⟩,trivial⟩,trivial⟩⟩⟩⟩⟩⟩⟩⟩⟩⟩⟩⟩) ?_
   change Tri _ _ _ _ _ _
   refine rr [(20,.i .i64 ((k0 + 1:Nat):Int))] none [6,4,3,2] [0,32,16] ((True∧((iAdd .i64 (k0:Int) 1)=((k0 + 1:Nat):Int)))∧(TT∧True))
     ([(6,qi ((k0 + 1:Nat):Int)),(4,qp 32 0),(3,qp 16 0),(2,qp 0 0)],[(0,.ints .u64 5 (z0.set k0 (iAdd .u64 (z0.getD k0 0) (p1.getD k0 0)))),(32,.ints .u64 5 [0,0,0,0,0]),(16,.ints .u64 5 p1)])
     336 (⟨⟨trivial,(iAdd_nat (a:=k0) (b:=1) (by omega))⟩,⟨tt,trivial⟩⟩) ?_
   refine countP_normal (by omega) trivial ?_
   exact Sub.ren (ns:=[(32,32),(16,16),(0,0)]) (kf:=[6,4,3,2]) (by kernel_rfl) (by kernel_rfl)
  ·
   have h1':=of_decide_eq_false h1
   refine Tri.exit ?_
   have hend0:k0=5:=by (have:=of_decide_eq_false h1; omega)
   subst hend0; subst hz0
   change Tri _ _ _ _ _ _
   refine sr [] none [4] [32] (TT∧((TT∧True)∧(((True∧(5=5))∧True)∧True)))
     ([(4,qp 32 0)],[(32,.ints .u64 5 (F45 (itr (F16l0 p1) 5 p0)))])
     128 (⟨tt,⟨⟨tt,trivial⟩,⟨⟨⟨trivial,(rfl)⟩,trivial⟩,trivial⟩⟩⟩) ?_
   refine Tri.ret ?_
   exact endP.ret [] TT (by kernel_rfl) (by kernel_rfl) (by kernel_rfl) tt
noncomputable def F18l0 (p1:List Int) (k0:Nat) (z0:List Int):List Int :=
 z0.set (k0 + 1) (iAdd .u64 (z0.getD (k0 + 1) 0) (iSub .u64 9007199254740988 ((F45 p1).getD (k0 + 1) 0)))
noncomputable def F18 (p0:List Int) (p1:List Int):List Int :=
 (F45 (itr (F18l0 p1) 4 (p0.set 0 (iAdd .u64 (p0.getD 0 0) (iSub .u64 9007199254740916 ((F45 p1).getD 0 0))))))
noncomputable def S18:List AV→Option (Prop × Ret)
 | [.ints .u64 5 p0,.ints .u64 5 p1] => some (True,⟨.ints .u64 5 (F18 p0 p1),[]⟩)
 | _ => none
noncomputable def B18:Bs:={ P:=Go.Proofs.Tryd.prog,G:=gD,tab:=tabOf [(65,⟨[.val],0,S45⟩)],n:=36 }
theorem B18.ok:B18.Ok:=⟨tabOk (P:=Go.Proofs.Tryd.prog) (G:=gD) (l:=[(65,⟨[.val],0,S45⟩)]) (And.intro K45 True.intro),mixed⟩
theorem K18:Known Go.Proofs.Tryd.prog gD 36 ⟨[.val,.val],0,S18⟩:=by
 refine Known.walk (B:=B18) (fn:=Go.Proofs.Tryd.f36) B18.ok (by kernel_rfl) rfl (by kernel_rfl) (by kernel_rfl) (by decide) ?_ ?_
 ·intro vs C r h
  simp only at h
  unfold S18 at h
  split at h
  ·cases h; rfl
  ·cases h
 ·intro E args C r h hC hlen
  simp only at h
  unfold S18 at h
  split at h
  rotate_left
  ·cases h
  rename_i p0 p1
  cases h
  simp only [lens] at hlen
  refine ⟨show 2≤36 from by decide,?_⟩
  refine Tri.sub (Sub.of_eq (show _=([(0,.ints .u64 5 p0),(1,.ints .u64 5 p1)],[]) from rfl)) ?_
  refine sr [] none [4,3,2] [32,16,0] (TT∧(TT∧(TT∧True)))
    ([(4,qp 32 0),(3,qp 16 0),(2,qp 0 0)],[(32,.ints .u64 5 [0,0,0,0,0]),(16,.ints .u64 5 p1),(0,.ints .u64 5 p0)])
    48 (⟨tt,⟨tt,⟨tt,trivial⟩⟩⟩) ?_
  refine sr [] none [4,3,2] [16,32,0] (TT∧((TT∧True)∧(((True∧(5=5))∧True)∧True)))
    ([(4,qp 32 0),(3,qp 16 0),(2,qp 0 0)],[(16,.ints .u64 5 (F45 p1)),(32,.ints .u64 5 [0,0,0,0,0]),(0,.ints .u64 5 p0)])
    96 (⟨tt,⟨⟨tt,trivial⟩,⟨⟨⟨trivial,(rfl)⟩,trivial⟩,trivial⟩⟩⟩) ?_
  refine sr [] none [4,3,2] [0,16,32] (TT∧((((0:Int)≤0∧0 < ((5:Nat):Int))∧True)∧(((0 < 5)∧True)∧(TT∧((((0:Int)≤0∧0 < ((5:Nat):Int))∧True)∧(((0 < 5)∧True)∧(TT∧(TT∧(TT∧((((0:Int)≤0∧0 < ((5:Nat):Int))∧True)∧((((0 < 5)∧(1=1))∧True)∧True)))))))))))
    ([(4,qp 32 0),(3,qp 16 0),(2,qp 0 0)],[(0,.ints .u64 5 (p0.set 0 (iAdd .u64 (p0.getD 0 0) (iSub .u64 9007199254740916 ((F45 p1).getD 0 0))))),(16,.ints .u64 5 (F45 p1)),(32,.ints .u64 5 [0,0,0,0,0])])
    272 (⟨tt,⟨⟨(by omega),trivial⟩,⟨⟨(by omega),trivial⟩,⟨tt,⟨⟨(by omega),trivial⟩,⟨⟨(by omega),trivial⟩,⟨tt,⟨tt,⟨tt,⟨⟨(by omega),trivial⟩,⟨⟨⟨(by omega),(rfl)⟩,trivial⟩,trivial⟩⟩⟩⟩⟩⟩⟩⟩⟩⟩⟩) ?_
  refine Tri.seq ?_
  refine sr [] none [5,4,3,2] [0,16,32] (TT∧True)
    ([(5,qi 1),(4,qp 32 0),(3,qp 16 0),(2,qp 0 0)],[(0,.ints .u64 5 (p0.set 0 (iAdd .u64 (p0.getD 0 0) (iSub .u64 9007199254740916 ((F45 p1).getD 0 0))))),(16,.ints .u64 5 (F45 p1)),(32,.ints .u64 5 [0,0,0,0,0])])
    288 (⟨tt,trivial⟩) ?_
  refine Tri.block ?_
  refine Tri.count 288 4 (F18l0 p1) (p0.set 0 (iAdd .u64 (p0.getD 0 0) (iSub .u64 9007199254740916 ((F45 p1).getD 0 0)))) (fun k0 z0 => True) (fun k0 z0 => ([(5,qi ((k0 + 1:Nat):Int)),(4,qp 32 0),(3,qp 16 0),(2,qp 0 0)],[(0,.ints .u64 5 z0),(16,.ints .u64 5 (F45 p1)),(32,.ints .u64 5 [0,0,0,0,0])])) trivial (Sub.of_eq (by kernel_rfl)) ?_
  intro k0 z0 hk0 hz0 hJ0
  refine Tri.seq ?_
  refine sr [] none [19,5,4,3,2] [0,16,32] (TT∧(TT∧True))
    ([(19,.sc (.b (decide ((((k0 + 1:Nat):Int):Int) < 5)))),(5,qi ((k0 + 1:Nat):Int)),(4,qp 32 0),(3,qp 16 0),(2,qp 0 0)],[(0,.ints .u64 5 z0),(16,.ints .u64 5 (F45 p1)),(32,.ints .u64 5 [0,0,0,0,0])])
    320 (⟨tt,⟨tt,trivial⟩⟩) ?_
  refine Tri.cond (x:=(decide ((((k0 + 1:Nat):Int):Int) < 5))) (by kernel_rfl) (fun h1 => ?_) (fun h1 => ?_)
  ·
   have h1':=of_decide_eq_true h1
   refine Tri.skip ?_
   change Tri _ _ _ _ _ _
   refine Tri.seq ?_
   refine Tri.block ?_
   refine rr [] (some [0,0,3,7,0,0,48,112,240,511,0,2047,4095]) [5,4,3,2] [0,16,32] (TT∧(TT∧((((0:Int)≤((k0 + 1:Nat):Int)∧((k0 + 1:Nat):Int) < ((5:Nat):Int))∧True)∧(((k0 + 1 < 5)∧True)∧(TT∧(TT∧((((0:Int)≤((k0 + 1:Nat):Int)∧((k0 + 1:Nat):Int) < ((5:Nat):Int))∧True)∧(((k0 + 1 < 5)∧True)∧(TT∧(TT∧(TT∧((((0:Int)≤((k0 + 1:Nat):Int)∧((k0 + 1:Nat):Int) < ((5:Nat):Int))∧True)∧((((k0 + 1 < 5)∧(1=1))∧True)∧True)))))))))))))
     ([(5,qi ((k0 + 1:Nat):Int)),(4,qp 32 0),(3,qp 16 0),(2,qp 0 0)],[(0,.ints .u64 5 (z0.set (k0 + 1) (iAdd .u64 (z0.getD (k0 + 1) 0) (iSub .u64 9007199254740988 ((F45 p1).getD (k0 + 1) 0))))),(16,.ints .u64 5 (F45 p1)),(32,.ints .u64 5 [0,0,0,0,0])])
     528 (⟨tt,⟨tt,⟨⟨(by omega),trivial⟩,⟨⟨(by omega),trivial⟩,⟨tt,⟨tt,⟨⟨(by omega),trivial⟩,⟨⟨(by omega),trivial⟩,⟨tt,⟨tt,⟨tt,⟨⟨(by omega),trivial⟩,⟨⟨⟨(by omega),(rfl)⟩,trivial⟩,trivial⟩⟩⟩⟩⟩⟩⟩⟩⟩⟩⟩⟩⟩) ?_
   change Tri _ _ _ _ _ _
   refine rr [(21,.i .i64 (((k0 + 1) + 1:Nat):Int))] none [5,4,3,2] [0,16,32] (TT∧((True∧((iAdd .i64 ((k0 + 1:Nat):Int) 1)=(((k0 + 1) + 1:Nat):Int)))∧(TT∧True)))
     ([(5,qi (((k0 + 1) + 1:Nat):Int)),(4,qp 32 0),(3,qp 16 0),(2,qp 0 0)],[(0,.ints .u64 5 (z0.set (k0 + 1) (iAdd .u64 (z0.getD (k0 + 1) 0) (iSub .u64 9007199254740988 ((F45 p1).getD (k0 + 1) 0))))),(16,.ints .u64 5 (F45 p1)),(32,.ints .u64 5 [0,0,0,0,0])])
     576 (⟨tt,⟨⟨trivial,(iAdd_nat (a:=k0 + 1) (b:=1) (by omega))⟩,⟨tt,trivial⟩⟩⟩) ?_
   refine countP_normal (by omega) trivial ?_
   exact Sub.ren (ns:=[(0,0),(16,16),(32,32)]) (kf:=[5,4,3,2]) (by kernel_rfl) (by kernel_rfl)
  ·
   have h1':=of_decide_eq_false h1
   refine Tri.exit ?_
   have hend0:k0=4:=by (have:=of_decide_eq_false h1; omega)
   subst hend0; subst hz0
   change Tri _ _ _ _ _ _
   refine sr [] none [4] [32] (TT∧((TT∧True)∧(((True∧(5=5))∧True)∧True)))
     ([(4,qp 32 0)],[(32,.ints .u64 5 (F45 (itr (F18l0 p1) 4 (p0.set 0 (iAdd .u64 (p0.getD 0 0) (iSub .u64 9007199254740916 ((F45 p1).getD 0 0)))))))])
     368 (⟨tt,⟨⟨tt,trivial⟩,⟨⟨⟨trivial,(rfl)⟩,trivial⟩,trivial⟩⟩⟩) ?_
   refine Tri.ret ?_
   exact endP.ret [] TT (by kernel_rfl) (by kernel_rfl) (by kernel_rfl) tt
noncomputable def F55 (p0:Int) (p1:Int):Int :=
 (iAdd .u64 (iAdd .u64 (iMul .u64 (iShr .u64 p0 32) (iShr .u64 p1 32)) (iShr .u64 (iAdd .u64 (iMul .u64 (iShr .u64 p0 32) (iAnd .u64 p1 4294967295)) (iShr .u64 (iMul .u64 (iAnd .u64 p0 4294967295) (iAnd .u64 p1 4294967295)) 32)) 32)) (iShr .u64 (iAdd .u64 (iAnd .u64 (iAdd .u64 (iMul .u64 (iShr .u64 p0 32) (iAnd .u64 p1 4294967295)) (iShr .u64 (iMul .u64 (iAnd .u64 p0 4294967295) (iAnd .u64 p1 4294967295)) 32)) 4294967295) (iMul .u64 (iAnd .u64 p0 4294967295) (iShr .u64 p1 32))) 32))
noncomputable def F55_1 (p0:Int) (p1:Int):Int :=
 (iMul .u64 p0 p1)
noncomputable def S55:List AV→Option (Prop × Ret)
 | [.sc (.i .u64 p0),.sc (.i .u64 p1)] => some (True,⟨.tup [.sc (.i .u64 (F55 p0 p1)),.sc (.i .u64 (F55_1 p0 p1))],[]⟩)
 | _ => none
noncomputable def B55:Bs:={ P:=Go.Proofs.Tryd.prog,G:=gD,tab:=tabOf [],n:=51 }
theorem B55.ok:B55.Ok:=⟨tabOk (P:=Go.Proofs.Tryd.prog) (G:=gD) (l:=[]) True.intro,mixed⟩
theorem K55:Known Go.Proofs.Tryd.prog gD 81 ⟨[.val,.val],0,S55⟩:=by
 refine Known.walk (B:=B55) (fn:=Go.Proofs.Tryd.f81) B55.ok (by kernel_rfl) rfl (by kernel_rfl) (by kernel_rfl) (by decide) ?_ ?_
 ·intro vs C r h
  simp only at h
  unfold S55 at h
  split at h
  ·cases h; rfl
  ·cases h
 ·intro E args C r h hC hlen
  simp only at h
  unfold S55 at h
  split at h
  rotate_left
  ·cases h
  rename_i p0 p1
  cases h
  simp only [lens] at hlen
  refine ⟨show 2≤51 from by decide,?_⟩
  refine Tri.sub (Sub.of_eq (show _=([(0,.sc (.i .u64 p0)),(1,.sc (.i .u64 p1))],[]) from rfl)) ?_
  refine sr [] none [0,1] [] (TT∧(TT∧True))
    ([(0,.sc (.i .u64 p0)),(1,.sc (.i .u64 p1))],[])
    32 (⟨tt,⟨tt,trivial⟩⟩) ?_
  refine sr [] none [6,0,1] [] (TT∧(TT∧(TT∧True)))
    ([(6,.sc (.i .u64 (iAnd .u64 p0 4294967295))),(0,.sc (.i .u64 p0)),(1,.sc (.i .u64 p1))],[])
    80 (⟨tt,⟨tt,⟨tt,trivial⟩⟩⟩) ?_
  refine sr [] none [7,6,0,1] [] (TT∧((((0:Int)≤32)∧True)∧(TT∧True)))
    ([(7,.sc (.i .u64 (iShr .u64 p0 32))),(6,.sc (.i .u64 (iAnd .u64 p0 4294967295))),(0,.sc (.i .u64 p0)),(1,.sc (.i .u64 p1))],[])
    128 (⟨tt,⟨⟨(by omega),trivial⟩,⟨tt,trivial⟩⟩⟩) ?_
  refine sr [] none [8,7,6,0,1] [] (TT∧(TT∧(TT∧True)))
    ([(8,.sc (.i .u64 (iAnd .u64 p1 4294967295))),(7,.sc (.i .u64 (iShr .u64 p0 32))),(6,.sc (.i .u64 (iAnd .u64 p0 4294967295))),(0,.sc (.i .u64 p0)),(1,.sc (.i .u64 p1))],[])
    176 (⟨tt,⟨tt,⟨tt,trivial⟩⟩⟩) ?_
  refine sr [] none [9,8,7,6,0,1] [] (TT∧((((0:Int)≤32)∧True)∧(TT∧True)))
    ([(9,.sc (.i .u64 (iShr .u64 p1 32))),(8,.sc (.i .u64 (iAnd .u64 p1 4294967295))),(7,.sc (.i .u64 (iShr .u64 p0 32))),(6,.sc (.i .u64 (iAnd .u64 p0 4294967295))),(0,.sc (.i .u64 p0)),(1,.sc (.i .u64 p1))],[])
    224 (⟨tt,⟨⟨(by omega),trivial⟩,⟨tt,trivial⟩⟩⟩) ?_
  refine sr [] none [10,9,8,7,6,0,1] [] (TT∧(TT∧(TT∧(TT∧True))))
    ([(10,.sc (.i .u64 (iMul .u64 (iAnd .u64 p0 4294967295) (iAnd .u64 p1 4294967295)))),(9,.sc (.i .u64 (iShr .u64 p1 32))),(8,.sc (.i .u64 (iAnd .u64 p1 4294967295))),(7,.sc (.i .u64 (iShr .u64 p0 32))),(6,.sc (.i .u64 (iAnd .u64 p0 4294967295))),(0,.sc (.i .u64 p0)),(1,.sc (.i .u64 p1))],[])
    288 (⟨tt,⟨tt,⟨tt,⟨tt,trivial⟩⟩⟩⟩) ?_
  refine sr [] none [11,9,7,6,0,1] [] (TT∧(TT∧(TT∧(TT∧((((0:Int)≤32)∧True)∧(TT∧(TT∧True)))))))
    ([(11,.sc (.i .u64 (iAdd .u64 (iMul .u64 (iShr .u64 p0 32) (iAnd .u64 p1 4294967295)) (iShr .u64 (iMul .u64 (iAnd .u64 p0 4294967295) (iAnd .u64 p1 4294967295)) 32)))),(9,.sc (.i .u64 (iShr .u64 p1 32))),(7,.sc (.i .u64 (iShr .u64 p0 32))),(6,.sc (.i .u64 (iAnd .u64 p0 4294967295))),(0,.sc (.i .u64 p0)),(1,.sc (.i .u64 p1))],[])
    400 (⟨tt,⟨tt,⟨tt,⟨tt,⟨⟨(by omega),trivial⟩,⟨tt,⟨tt,trivial⟩⟩⟩⟩⟩⟩⟩) ?_
  refine sr [] none [12,11,9,7,6,0,1] [] (TT∧(TT∧(TT∧True)))
    ([(12,.sc (.i .u64 (iAnd .u64 (iAdd .u64 (iMul .u64 (iShr .u64 p0 32) (iAnd .u64 p1 4294967295)) (iShr .u64 (iMul .u64 (iAnd .u64 p0 4294967295) (iAnd .u64 p1 4294967295)) 32)) 4294967295))),(11,.sc (.i .u64 (iAdd .u64 (iMul .u64 (iShr .u64 p0 32) (iAnd .u64 p1 4294967295)) (iShr .u64 (iMul .u64 (iAnd .u64 p0 4294967295) (iAnd .u64 p1 4294967295)) 32)))),(9,.sc (.i .u64 (iShr .u64 p1 32))),(7,.sc (.i .u64 (iShr .u64 p0 32))),(6,.sc (.i .u64 (iAnd .u64 p0 4294967295))),(0,.sc (.i .u64 p0)),(1,.sc (.i .u64 p1))],[])
    448 (⟨tt,⟨tt,⟨tt,trivial⟩⟩⟩) ?_
  refine sr [] none [13,12,9,7,6,0,1] [] (TT∧((((0:Int)≤32)∧True)∧(TT∧True)))
    ([(13,.sc (.i .u64 (iShr .u64 (iAdd .u64 (iMul .u64 (iShr .u64 p0 32) (iAnd .u64 p1 4294967295)) (iShr .u64 (iMul .u64 (iAnd .u64 p0 4294967295) (iAnd .u64 p1 4294967295)) 32)) 32))),(12,.sc (.i .u64 (iAnd .u64 (iAdd .u64 (iMul .u64 (iShr .u64 p0 32) (iAnd .u64 p1 4294967295)) (iShr .u64 (iMul .u64 (iAnd .u64 p0 4294967295) (iAnd .u64 p1 4294967295)) 32)) 4294967295))),(9,.sc (.i .u64 (iShr .u64 p1 32))),(7,.sc (.i .u64 (iShr .u64 p0 32))),(6,.sc (.i .u64 (iAnd .u64 p0 4294967295))),(0,.sc (.i .u64 p0)),(1,.sc (.i .u64 p1))],[])
    496 (⟨tt,⟨⟨(by omega),trivial⟩,⟨tt,trivial⟩⟩⟩) ?_
  refine sr [] none [12,13,9,7,0,1] [] (TT∧(TT∧(TT∧(TT∧(TT∧(TT∧True))))))
    ([(12,.sc (.i .u64 (iAdd .u64 (iAnd .u64 (iAdd .u64 (iMul .u64 (iShr .u64 p0 32) (iAnd .u64 p1 4294967295)) (iShr .u64 (iMul .u64 (iAnd .u64 p0 4294967295) (iAnd .u64 p1 4294967295)) 32)) 4294967295) (iMul .u64 (iAnd .u64 p0 4294967295) (iShr .u64 p1 32))))),(13,.sc (.i .u64 (iShr .u64 (iAdd .u64 (iMul .u64 (iShr .u64 p0 32) (iAnd .u64 p1 4294967295)) (iShr .u64 (iMul .u64 (iAnd .u64 p0 4294967295) (iAnd .u64 p1 4294967295)) 32)) 32))),(9,.sc (.i .u64 (iShr .u64 p1 32))),(7,.sc (.i .u64 (iShr .u64 p0 32))),(0,.sc (.i .u64 p0)),(1,.sc (.i .u64 p1))],[])
    592 (⟨tt,⟨tt,⟨tt,⟨tt,⟨tt,⟨tt,trivial⟩⟩⟩⟩⟩⟩) ?_
  refine sr [] none [4,0,1] [] (TT∧(TT∧(TT∧(TT∧(TT∧(TT∧((((0:Int)≤32)∧True)∧(TT∧(TT∧True)))))))))
    ([(4,.sc (.i .u64 (iAdd .u64 (iAdd .u64 (iMul .u64 (iShr .u64 p0 32) (iShr .u64 p1 32)) (iShr .u64 (iAdd .u64 (iMul .u64 (iShr .u64 p0 32) (iAnd .u64 p1 4294967295)) (iShr .u64 (iMul .u64 (iAnd .u64 p0 4294967295) (iAnd .u64 p1 4294967295)) 32)) 32)) (iShr .u64 (iAdd .u64 (iAnd .u64 (iAdd .u64 (iMul .u64 (iShr .u64 p0 32) (iAnd .u64 p1 4294967295)) (iShr .u64 (iMul .u64 (iAnd .u64 p0 4294967295) (iAnd .u64 p1 4294967295)) 32)) 4294967295) (iMul .u64 (iAnd .u64 p0 4294967295) (iShr .u64 p1 32))) 32)))),(0,.sc (.i .u64 p0)),(1,.sc (.i .u64 p1))],[])
    736 (⟨tt,⟨tt,⟨tt,⟨tt,⟨tt,⟨tt,⟨⟨(by omega),trivial⟩,⟨tt,⟨tt,trivial⟩⟩⟩⟩⟩⟩⟩⟩⟩) ?_
  refine sr [] none [5,4] [] (TT∧(TT∧(TT∧(TT∧True))))
    ([(5,.sc (.i .u64 (iMul .u64 p0 p1))),(4,.sc (.i .u64 (iAdd .u64 (iAdd .u64 (iMul .u64 (iShr .u64 p0 32) (iShr .u64 p1 32)) (iShr .u64 (iAdd .u64 (iMul .u64 (iShr .u64 p0 32) (iAnd .u64 p1 4294967295)) (iShr .u64 (iMul .u64 (iAnd .u64 p0 4294967295) (iAnd .u64 p1 4294967295)) 32)) 32)) (iShr .u64 (iAdd .u64 (iAnd .u64 (iAdd .u64 (iMul .u64 (iShr .u64 p0 32) (iAnd .u64 p1 4294967295)) (iShr .u64 (iMul .u64 (iAnd .u64 p0 4294967295) (iAnd .u64 p1 4294967295)) 32)) 4294967295) (iMul .u64 (iAnd .u64 p0 4294967295) (iShr .u64 p1 32))) 32))))],[])
    800 (⟨tt,⟨tt,⟨tt,⟨tt,trivial⟩⟩⟩⟩) ?_
  refine Tri.ret ?_
  exact endP.ret [] (True∧TT) (by kernel_rfl) (by kernel_rfl) (by kernel_rfl) ⟨trivial,tt⟩
noncomputable def T55:List AV→Option (Prop × Ret)
 | [.sc (.i .u64 p0),.sc (.i .u64 p1)] => some (0≤p0∧p0 < 18446744073709551616∧0≤p1∧p1 < 18446744073709551616,⟨.tup [.sc (.i .u64 (mulHi p0 p1)),.sc (.i .u64 (mulLo p0 p1))],[]⟩)
 | _ => none
theorem K55m:Known Go.Proofs.Tryd.prog gD 81 ⟨[.val,.val],0,T55⟩:=by
 refine Known.same K55 rfl ?_ ?_
 ·intro vs C r h hC
  simp only at h
  unfold T55 at h
  split at h
  rotate_left
  ·cases h
  rename_i p0 p1
  cases h
  obtain ⟨h1,h2,h3,h4⟩:=hC
  refine ⟨True,?_,trivial⟩
  show some (True,_)=some (True,_)
  have e1:F55 p0 p1=mulHi p0 p1:=mul64_hi p0 p1 h1 h2 h3 h4
  have e2:F55_1 p0 p1=mulLo p0 p1:=iMul_u64 p0 p1
  rw [e1,e2]
 ·intro vs C r h
  simp only at h
  unfold T55 at h
  split at h
  ·cases h; rfl
  ·cases h
def rng (xs:List Int):Prop:=∀ j,0≤xs.getD j 0∧xs.getD j 0 < 18446744073709551616
theorem rng_of_all {xs:List Int} (h:∀ x ∈ xs,0≤x∧x < 18446744073709551616):rng xs:=by
 intro j
 rw [List.getD_eq_getElem?_getD]
 cases hj:xs[j]? with
 | none => simp
 | some v => exact h v (List.mem_of_getElem? hj)
theorem rng.all {xs:List Int} (h:rng xs):∀ x ∈ xs,0≤x∧x < 18446744073709551616:=by
 intro x hx
 obtain ⟨j,hj⟩:=List.mem_iff_getElem?.1 hx
 have:=h j
 rw [List.getD_eq_getElem?_getD,hj] at this
 exact this
theorem rng_part {z:List Int} (h:rng z) (a b:Nat):rng ((z.drop a).take b) :=
 rng_of_all fun x hx => h.all x (List.mem_of_mem_drop (List.mem_of_mem_take hx))
theorem rng_set {z:List Int} (h:rng z) {i:Nat} {v:Int} (hv:0≤v∧v < 18446744073709551616):rng (z.set i v):=by
 refine rng_of_all fun x hx => ?_
 rcases List.mem_or_eq_of_mem_set hx with h1 | h1
 ·exact h.all x h1
 ·rw [h1]; exact hv
theorem rng_splice {z ys:List Int} (h:rng z) (h':rng ys) {o:Nat}:rng (splice z o ys):=by
 refine rng_of_all fun x hx => ?_
 unfold splice at hx
 rcases List.mem_append.1 hx with h1 | h1
 ·rcases List.mem_append.1 h1 with h2 | h2
  ·exact h.all x (List.mem_of_mem_take h2)
  ·exact h'.all x h2
 ·exact h.all x (List.mem_of_mem_drop h1)
theorem mod64 (x:Int):0≤x % 18446744073709551616∧x % 18446744073709551616 < 18446744073709551616:=by omega
theorem add64_rng (x y c:Int):0≤add64 x y c∧add64 x y c < 18446744073709551616:=mod64 _
theorem wrap64_rng (x:Int):0≤IntKind.wrap .u64 x∧IntKind.wrap .u64 x < 18446744073709551616:=by rw [wrap_u64]; exact mod64 _
noncomputable def F47 (p0:List Int) (p1:Int) (p2:Int):List Int :=
 (p0.set 1 (add64 (p0.getD 1 0) (mulLo p1 p2) 0)).set 0 (add64 ((p0.set 1 (add64 (p0.getD 1 0) (mulLo p1 p2) 0)).getD 0 0) (mulHi p1 p2) (add64c (p0.getD 1 0) (mulLo p1 p2) 0))
noncomputable def S47:List AV→Option (Prop × Ret)
 | [.ints .u64 2 p0,.sc (.i .u64 p1),.sc (.i .u64 p2)] => some (rng p0∧0≤p1∧p1 < 18446744073709551616∧0≤p2∧p2 < 18446744073709551616,⟨.ints .u64 2 (F47 p0 p1 p2),[]⟩)
 | _ => none
noncomputable def B47:Bs:={ P:=Go.Proofs.Tryd.prog,G:=gD,tab:=tabOf [(54,⟨[.val,.val,.val],0,specAdd64⟩),(81,⟨[.val,.val],0,T55⟩)],n:=34 }
theorem B47.ok:B47.Ok:=⟨tabOk (P:=Go.Proofs.Tryd.prog) (G:=gD) (l:=[(54,⟨[.val,.val,.val],0,specAdd64⟩),(81,⟨[.val,.val],0,T55⟩)]) (And.intro K48 (And.intro K55m True.intro)),mixed⟩
theorem K47:Known Go.Proofs.Tryd.prog gD 74 ⟨[.val,.val,.val],0,S47⟩:=by
 refine Known.walk (B:=B47) (fn:=Go.Proofs.Tryd.f74) B47.ok (by kernel_rfl) rfl (by kernel_rfl) (by kernel_rfl) (by decide) ?_ ?_
 ·intro vs C r h
  simp only at h
  unfold S47 at h
  split at h
  ·cases h; rfl
  ·cases h
 ·intro E args C r h hC hlen
  simp only at h
  unfold S47 at h
  split at h
  rotate_left
  ·cases h
  rename_i p0 p1 p2
  cases h
  simp only [lens] at hlen
  have hf1:=mulHi_nonneg hC.2.1 hC.2.2.2.1
  have hf2:=hC.1 0
  have hf3:=hC.1 1
  refine ⟨show 3≤34 from by decide,?_⟩
  refine Tri.sub (Sub.of_eq (show _=([(0,.ints .u64 2 p0),(1,.sc (.i .u64 p1)),(2,.sc (.i .u64 p2))],[]) from rfl)) ?_
  refine sr [] none [6,3,1,2] [16,0] (TT∧(TT∧True))
    ([(6,qp 16 0),(3,qp 0 0),(1,.sc (.i .u64 p1)),(2,.sc (.i .u64 p2))],[(16,.ints .u64 2 [0,0]),(0,.ints .u64 2 p0)])
    32 (⟨tt,⟨tt,trivial⟩⟩) ?_
  refine sr [] none [8,7,6,3] [16,0] (TT∧(TT∧(((True∧(0≤p1∧p1 < 18446744073709551616∧0≤p2∧p2 < 18446744073709551616))∧True)∧(TT∧(TT∧(TT∧(TT∧(TT∧True))))))))
    ([(8,.sc (.i .u64 (mulLo p1 p2))),(7,.sc (.i .u64 (mulHi p1 p2))),(6,qp 16 0),(3,qp 0 0)],[(16,.ints .u64 2 [0,0]),(0,.ints .u64 2 p0)])
    160 (⟨tt,⟨tt,⟨⟨⟨trivial,(by omega)⟩,trivial⟩,⟨tt,⟨tt,⟨tt,⟨tt,⟨tt,trivial⟩⟩⟩⟩⟩⟩⟩⟩) ?_
  refine sr [] none [8,7,6,3] [16,0] (TT∧True)
    ([(8,.sc (.i .u64 (mulLo p1 p2))),(7,.sc (.i .u64 (mulHi p1 p2))),(6,qp 16 0),(3,qp 0 0)],[(16,.ints .u64 2 [0,0]),(0,.ints .u64 2 p0)])
    176 (⟨tt,trivial⟩) ?_
  refine sr [] none [9,7,6,3] [0,16] (TT∧(((1 < 2)∧True)∧(TT∧(((True∧((0:Int)≤(p0.getD 1 0)∧(0:Int)≤(mulLo p1 p2)∧(0:Int)≤0∧(0:Int)≤1))∧True)∧(TT∧(TT∧(TT∧(TT∧((((1 < 2)∧(1=1))∧True)∧(TT∧True))))))))))
    ([(9,.sc (.i .u64 (add64c (p0.getD 1 0) (mulLo p1 p2) 0))),(7,.sc (.i .u64 (mulHi p1 p2))),(6,qp 16 0),(3,qp 0 0)],[(0,.ints .u64 2 (p0.set 1 (add64 (p0.getD 1 0) (mulLo p1 p2) 0))),(16,.ints .u64 2 [0,0])])
    336 (⟨tt,⟨⟨(by omega),trivial⟩,⟨tt,⟨⟨⟨trivial,(by first | omega | (simp only [mulLo,add64c] at *; omega) | (rw [getD_set_ne (by decide)]; simp only [mulLo,add64c] at *; omega))⟩,trivial⟩,⟨tt,⟨tt,⟨tt,⟨tt,⟨⟨⟨(by omega),(rfl)⟩,trivial⟩,⟨tt,trivial⟩⟩⟩⟩⟩⟩⟩⟩⟩⟩) ?_
  refine sr [] none [6,3] [0,16] (TT∧(((0 < 2)∧True)∧(TT∧(TT∧(((True∧((0:Int)≤((p0.set 1 (add64 (p0.getD 1 0) (mulLo p1 p2) 0)).getD 0 0)∧(0:Int)≤(mulHi p1 p2)∧(0:Int)≤(add64c (p0.getD 1 0) (mulLo p1 p2) 0)∧((add64c (p0.getD 1 0) (mulLo p1 p2) 0):Int)≤1))∧True)∧(TT∧(TT∧(TT∧(TT∧((((0 < 2)∧(1=1))∧True)∧True))))))))))
    ([(6,qp 16 0),(3,qp 0 0)],[(0,.ints .u64 2 ((p0.set 1 (add64 (p0.getD 1 0) (mulLo p1 p2) 0)).set 0 (add64 ((p0.set 1 (add64 (p0.getD 1 0) (mulLo p1 p2) 0)).getD 0 0) (mulHi p1 p2) (add64c (p0.getD 1 0) (mulLo p1 p2) 0)))),(16,.ints .u64 2 [0,0])])
    496 (⟨tt,⟨⟨(by omega),trivial⟩,⟨tt,⟨tt,⟨⟨⟨trivial,(by first | omega | (simp only [mulLo,add64c] at *; omega) | (rw [getD_set_ne (by decide)]; simp only [mulLo,add64c] at *; omega))⟩,trivial⟩,⟨tt,⟨tt,⟨tt,⟨tt,⟨⟨⟨(by omega),(rfl)⟩,trivial⟩,trivial⟩⟩⟩⟩⟩⟩⟩⟩⟩⟩) ?_
  refine sr [] none [6] [16] (TT∧(((True∧(2=2))∧True)∧True))
    ([(6,qp 16 0)],[(16,.ints .u64 2 ((p0.set 1 (add64 (p0.getD 1 0) (mulLo p1 p2) 0)).set 0 (add64 ((p0.set 1 (add64 (p0.getD 1 0) (mulLo p1 p2) 0)).getD 0 0) (mulHi p1 p2) (add64c (p0.getD 1 0) (mulLo p1 p2) 0))))])
    528 (⟨tt,⟨⟨⟨trivial,(rfl)⟩,trivial⟩,trivial⟩⟩) ?_
  refine Tri.ret ?_
  exact endP.ret [] TT (by kernel_rfl) (by kernel_rfl) (by kernel_rfl) tt
theorem rng47 {p0:List Int} (h:rng p0) (a b:Int):rng (F47 p0 a b):=rng_set (rng_set h (add64_rng _ _ _)) (add64_rng _ _ _)
theorem five {xs:List Int} (h:xs.length=5):∃ a b c d e,xs=[a,b,c,d,e]:=by
 match xs,h with
 | [a,b,c,d,e],_ => exact ⟨a,b,c,d,e,rfl⟩
def t1 (a:Int):Int:=iAdd .u64 a 0
def t2 (a b:Int):Int:=iAdd .u64 b (iShr .u64 (t1 a) 51)
def t3 (a b c:Int):Int:=iAdd .u64 c (iShr .u64 (t2 a b) 51)
def t4 (a b c d:Int):Int:=iAdd .u64 d (iShr .u64 (t3 a b c) 51)
def t5 (a b c d e:Int):Int:=iAdd .u64 e (iShr .u64 (t4 a b c d) 51)
def lo51 (x:Int):Int:=iAnd .u64 x 2251799813685247
theorem F45_eq (a b c d e:Int):F45 [a,b,c,d,e]=[iAdd .u64 (lo51 (t1 a)) (iMul .u64 19 (iShr .u64 (t5 a b c d e) 51)),lo51 (t2 a b),lo51 (t3 a b c),lo51 (t4 a b c d),lo51 (t5 a b c d e)]:=by kernel_rfl
theorem rng45 {p0:List Int} (h:p0.length=5):rng (F45 p0):=by
 obtain ⟨a,b,c,d,e,rfl⟩:=five h
 rw [F45_eq]
 refine rng_of_all fun x hx => ?_
 simp only [List.mem_cons,List.not_mem_nil,or_false] at hx
 rcases hx with rfl | rfl | rfl | rfl | rfl <;> exact wrap64_rng _
theorem pre47 {z x y:List Int} {i j o:Nat} {b:Bool} (hz:rng z) (hx:rng x) (hy:rng y):rng ((z.drop o).take 2)∧0≤x.getD i 0∧x.getD i 0 < 18446744073709551616∧0≤(sel b (iMul .u64 (y.getD j 0) 19) (y.getD j 0))∧(sel b (iMul .u64 (y.getD j 0) 19) (y.getD j 0)) < 18446744073709551616:=by
 refine ⟨rng_part hz _ _,(hx i).1,(hx i).2,?_,?_⟩ <;> cases b
 ·exact (hy j).1
 ·exact (wrap64_rng _).1
 ·exact (hy j).2
 ·exact (wrap64_rng _).2
noncomputable def F20l1 (p0:List Int) (p1:List Int) (k0:Nat) (k1:Nat) (z1:List Int):List Int :=
 splice z1 (((k0 + k1) % 5) * 2) (F47 ((z1.drop (((k0 + k1) % 5) * 2)).take 2) ((F45 p0).getD k0 0) (sel (decide ((((k0 + k1:Nat):Int):Int) > 4)) (iMul .u64 ((F45 p1).getD k1 0) 19) ((F45 p1).getD k1 0)))
noncomputable def F20l0 (p0:List Int) (p1:List Int) (k0:Nat) (z0:List Int):List Int :=
 (itr (F20l1 p0 p1 k0) 5 z0)
noncomputable def F20l2 (p0:List Int) (p1:List Int) (k2:Nat) (z2:Int × List Int):Int × List Int :=
 ((iOr .u64 (iShl .u64 (iAdd .u64 ((((itr (F20l0 p0 p1) 5 [0,0,0,0,0,0,0,0,0,0]).drop (k2 * 2)).take 2).getD 0 0) (add64c ((((itr (F20l0 p0 p1) 5 [0,0,0,0,0,0,0,0,0,0]).drop (k2 * 2)).take 2).getD 1 0) z2.1 0)) 13) (iShr .u64 (add64 ((((itr (F20l0 p0 p1) 5 [0,0,0,0,0,0,0,0,0,0]).drop (k2 * 2)).take 2).getD 1 0) z2.1 0) 51)),z2.2.set k2 (iAnd .u64 (add64 ((((itr (F20l0 p0 p1) 5 [0,0,0,0,0,0,0,0,0,0]).drop (k2 * 2)).take 2).getD 1 0) z2.1 0) 2251799813685247))
noncomputable def F20 (p0:List Int) (p1:List Int):List Int :=
 (F45 (((itr (F20l2 p0 p1) 5 (0,[0,0,0,0,0])).2).set 0 (iAdd .u64 (((itr (F20l2 p0 p1) 5 (0,[0,0,0,0,0])).2).getD 0 0) (iMul .u64 19 ((itr (F20l2 p0 p1) 5 (0,[0,0,0,0,0])).1)))))
noncomputable def S20:List AV→Option (Prop × Ret)
 | [.ints .u64 5 p0,.ints .u64 5 p1] => some (True,⟨.ints .u64 5 (F20 p0 p1),[]⟩)
 | _ => none
noncomputable def B20:Bs:={ P:=Go.Proofs.Tryd.prog,G:=gD,tab:=tabOf [(54,⟨[.val,.val,.val],0,specAdd64⟩),(65,⟨[.val],0,S45⟩),(74,⟨[.val,.val,.val],0,S47⟩)],n:=92 }
theorem B20.ok:B20.Ok:=⟨tabOk (P:=Go.Proofs.Tryd.prog) (G:=gD) (l:=[(54,⟨[.val,.val,.val],0,specAdd64⟩),(65,⟨[.val],0,S45⟩),(74,⟨[.val,.val,.val],0,S47⟩)]) (And.intro K48 (And.intro K45 (And.intro K47 True.intro))),mixed⟩
theorem K20:Known Go.Proofs.Tryd.prog gD 51 ⟨[.val,.val],0,S20⟩:=by
 refine Known.walk (B:=B20) (fn:=Go.Proofs.Tryd.f51) B20.ok (by kernel_rfl) rfl (by kernel_rfl) (by kernel_rfl) (by decide) ?_ ?_
 ·intro vs C r h
  simp only at h
  unfold S20 at h
  split at h
  ·cases h; rfl
  ·cases h
 ·intro E args C r h hC hlen
  simp only at h
  unfold S20 at h
  split at h
  rotate_left
  ·cases h
  rename_i p0 p1
  cases h
  simp only [lens] at hlen
  refine ⟨show 2≤92 from by decide,?_⟩
  refine Tri.sub (Sub.of_eq (show _=([(0,.ints .u64 5 p0),(1,.ints .u64 5 p1)],[]) from rfl)) ?_
  refine sr [] none [4,3,2] [32,16,0] (TT∧(TT∧(TT∧True)))
    ([(4,qp 32 0),(3,qp 16 0),(2,qp 0 0)],[(32,.ints .u64 5 [0,0,0,0,0]),(16,.ints .u64 5 p1),(0,.ints .u64 5 p0)])
    48 (⟨tt,⟨tt,⟨tt,trivial⟩⟩⟩) ?_
  refine sr [] (some [0,1,0,7,15,31]) [4,3,2] [16,0,32] (TT∧((TT∧True)∧(TT∧((TT∧True)∧(((True∧(5=5))∧True)∧(((True∧(5=5))∧True)∧True))))))
    ([(4,qp 32 0),(3,qp 16 0),(2,qp 0 0)],[(16,.ints .u64 5 (F45 p1)),(0,.ints .u64 5 (F45 p0)),(32,.ints .u64 5 [0,0,0,0,0])])
    144 (⟨tt,⟨⟨tt,trivial⟩,⟨tt,⟨⟨tt,trivial⟩,⟨⟨⟨trivial,(rfl)⟩,trivial⟩,⟨⟨⟨trivial,(rfl)⟩,trivial⟩,trivial⟩⟩⟩⟩⟩⟩) ?_
  refine sr [] none [5,4,3,2] [144,16,0,32] (TT∧True)
    ([(5,qp 144 0),(4,qp 32 0),(3,qp 16 0),(2,qp 0 0)],[(144,.ints .u64 10 [0,0,0,0,0,0,0,0,0,0]),(16,.ints .u64 5 (F45 p1)),(0,.ints .u64 5 (F45 p0)),(32,.ints .u64 5 [0,0,0,0,0])])
    160 (⟨tt,trivial⟩) ?_
  refine Tri.seq ?_
  refine sr [] none [20,5,4,3,2] [144,16,0,32] (TT∧True)
    ([(20,qi 0),(5,qp 144 0),(4,qp 32 0),(3,qp 16 0),(2,qp 0 0)],[(144,.ints .u64 10 [0,0,0,0,0,0,0,0,0,0]),(16,.ints .u64 5 (F45 p1)),(0,.ints .u64 5 (F45 p0)),(32,.ints .u64 5 [0,0,0,0,0])])
    176 (⟨tt,trivial⟩) ?_
  refine Tri.block ?_
  refine Tri.count 176 5 (F20l0 p0 p1) [0,0,0,0,0,0,0,0,0,0] (fun k0 z0 => rng z0) (fun k0 z0 => ([(20,qi (k0:Int)),(5,qp 144 0),(4,qp 32 0),(3,qp 16 0),(2,qp 0 0)],[(144,.ints .u64 10 z0),(16,.ints .u64 5 (F45 p1)),(0,.ints .u64 5 (F45 p0)),(32,.ints .u64 5 [0,0,0,0,0])])) (rng_of_all (by decide)) (Sub.of_eq (by kernel_rfl)) ?_
  intro k0 z0 hk0 hz0 hJ0
  refine sr [] none [21,20,5,4,3,2] [144,16,0,32] (TT∧True)
    ([(21,.sc (.b (decide (((k0:Int):Int) < 5)))),(20,qi (k0:Int)),(5,qp 144 0),(4,qp 32 0),(3,qp 16 0),(2,qp 0 0)],[(144,.ints .u64 10 z0),(16,.ints .u64 5 (F45 p1)),(0,.ints .u64 5 (F45 p0)),(32,.ints .u64 5 [0,0,0,0,0])])
    192 (⟨tt,trivial⟩) ?_
  refine Tri.seq ?_
  refine Tri.cond (x:=(decide (((k0:Int):Int) < 5))) (by kernel_rfl) (fun h1 => ?_) (fun h1 => ?_)
  ·
   have h1':=of_decide_eq_true h1
   refine Tri.skip ?_
   change Tri _ _ _ _ _ _
   refine Tri.seq ?_
   refine Tri.block ?_
   refine sr [] none [6,20,5,4,3,2] [144,16,0,32] (TT∧(TT∧True))
     ([(6,qi (k0:Int)),(20,qi (k0:Int)),(5,qp 144 0),(4,qp 32 0),(3,qp 16 0),(2,qp 0 0)],[(144,.ints .u64 10 z0),(16,.ints .u64 5 (F45 p1)),(0,.ints .u64 5 (F45 p0)),(32,.ints .u64 5 [0,0,0,0,0])])
     224 (⟨tt,⟨tt,trivial⟩⟩) ?_
   refine sr [] none [23,6,20,5,4,3,2] [144,16,0,32] (TT∧True)
     ([(23,qi 0),(6,qi (k0:Int)),(20,qi (k0:Int)),(5,qp 144 0),(4,qp 32 0),(3,qp 16 0),(2,qp 0 0)],[(144,.ints .u64 10 z0),(16,.ints .u64 5 (F45 p1)),(0,.ints .u64 5 (F45 p0)),(32,.ints .u64 5 [0,0,0,0,0])])
     240 (⟨tt,trivial⟩) ?_
   refine Tri.block ?_
   refine Tri.count 240 5 (F20l1 p0 p1 k0) z0 (fun k1 z1 => rng z1) (fun k1 z1 => ([(23,qi (k1:Int)),(6,qi (k0:Int)),(20,qi (k0:Int)),(5,qp 144 0),(4,qp 32 0),(3,qp 16 0),(2,qp 0 0)],[(144,.ints .u64 10 z1),(16,.ints .u64 5 (F45 p1)),(0,.ints .u64 5 (F45 p0)),(32,.ints .u64 5 [0,0,0,0,0])])) hJ0 (Sub.of_eq (by kernel_rfl)) ?_
   intro k1 z1 hk1 hz1 hJ1
   refine sr [] none [24,23,6,20,5,4,3,2] [144,16,0,32] (TT∧True)
     ([(24,.sc (.b (decide (((k1:Int):Int) < 5)))),(23,qi (k1:Int)),(6,qi (k0:Int)),(20,qi (k0:Int)),(5,qp 144 0),(4,qp 32 0),(3,qp 16 0),(2,qp 0 0)],[(144,.ints .u64 10 z1),(16,.ints .u64 5 (F45 p1)),(0,.ints .u64 5 (F45 p0)),(32,.ints .u64 5 [0,0,0,0,0])])
     256 (⟨tt,trivial⟩) ?_
   refine Tri.seq ?_
   refine Tri.cond (x:=(decide (((k1:Int):Int) < 5))) (by kernel_rfl) (fun h2 => ?_) (fun h2 => ?_)
   ·
    have h2':=of_decide_eq_true h2
    refine Tri.skip ?_
    change Tri _ _ _ _ _ _
    refine Tri.seq ?_
    refine Tri.block ?_
    refine sr [] none [7,23,6,20,5,4,3,2] [144,16,0,32] (TT∧(TT∧True))
      ([(7,qi (k1:Int)),(23,qi (k1:Int)),(6,qi (k0:Int)),(20,qi (k0:Int)),(5,qp 144 0),(4,qp 32 0),(3,qp 16 0),(2,qp 0 0)],[(144,.ints .u64 10 z1),(16,.ints .u64 5 (F45 p1)),(0,.ints .u64 5 (F45 p0)),(32,.ints .u64 5 [0,0,0,0,0])])
      288 (⟨tt,⟨tt,trivial⟩⟩) ?_
    refine sr [] none [8,7,23,6,20,5,4,3,2] [144,16,0,32] (TT∧(TT∧((((0:Int)≤(k1:Int)∧(k1:Int) < ((5:Nat):Int))∧True)∧(((k1 < 5)∧True)∧(TT∧True)))))
      ([(8,.sc (.i .u64 ((F45 p1).getD k1 0))),(7,qi (k1:Int)),(23,qi (k1:Int)),(6,qi (k0:Int)),(20,qi (k0:Int)),(5,qp 144 0),(4,qp 32 0),(3,qp 16 0),(2,qp 0 0)],[(144,.ints .u64 10 z1),(16,.ints .u64 5 (F45 p1)),(0,.ints .u64 5 (F45 p0)),(32,.ints .u64 5 [0,0,0,0,0])])
      368 (⟨tt,⟨tt,⟨⟨(by omega),trivial⟩,⟨⟨(by omega),trivial⟩,⟨tt,trivial⟩⟩⟩⟩⟩) ?_
    refine Tri.seq ?_
    refine sr [(32,.i .i64 ((k0 + k1:Nat):Int))] none [33,8,7,23,6,20,5,4,3,2] [144,16,0,32] (TT∧(TT∧((True∧((iAdd .i64 (k0:Int) (k1:Int))=((k0 + k1:Nat):Int)))∧(TT∧True))))
      ([(33,.sc (.b (decide ((((k0 + k1:Nat):Int):Int) > 4)))),(8,.sc (.i .u64 ((F45 p1).getD k1 0))),(7,qi (k1:Int)),(23,qi (k1:Int)),(6,qi (k0:Int)),(20,qi (k0:Int)),(5,qp 144 0),(4,qp 32 0),(3,qp 16 0),(2,qp 0 0)],[(144,.ints .u64 10 z1),(16,.ints .u64 5 (F45 p1)),(0,.ints .u64 5 (F45 p0)),(32,.ints .u64 5 [0,0,0,0,0])])
      432 (⟨tt,⟨tt,⟨⟨trivial,(iAdd_nat (a:=k0) (b:=k1) (by omega))⟩,⟨tt,trivial⟩⟩⟩⟩) ?_
    refine Tri.join (x:=(decide ((((k0 + k1:Nat):Int):Int) > 4))) (fun bb => ([(8,.sc (.i .u64 (sel bb (iMul .u64 ((F45 p1).getD k1 0) 19) ((F45 p1).getD k1 0)))),(7,qi (k1:Int)),(23,qi (k1:Int)),(6,qi (k0:Int)),(20,qi (k0:Int)),(5,qp 144 0),(4,qp 32 0),(3,qp 16 0),(2,qp 0 0)],[(144,.ints .u64 10 z1),(16,.ints .u64 5 (F45 p1)),(0,.ints .u64 5 (F45 p0)),(32,.ints .u64 5 [0,0,0,0,0])])) 480 (by kernel_rfl) (fun h3 => ?_) (fun h3 => ?_) ?_
    ·
     have h3':=of_decide_eq_true h3
     refine rr [] none [8,7,23,6,20,5,4,3,2] [144,16,0,32] (TT∧(TT∧(TT∧True)))
       ([(8,.sc (.i .u64 (iMul .u64 ((F45 p1).getD k1 0) 19))),(7,qi (k1:Int)),(23,qi (k1:Int)),(6,qi (k0:Int)),(20,qi (k0:Int)),(5,qp 144 0),(4,qp 32 0),(3,qp 16 0),(2,qp 0 0)],[(144,.ints .u64 10 z1),(16,.ints .u64 5 (F45 p1)),(0,.ints .u64 5 (F45 p0)),(32,.ints .u64 5 [0,0,0,0,0])])
       480 (⟨tt,⟨tt,⟨tt,trivial⟩⟩⟩) ?_
     exact (Sub.ren (ns:=[(144,144),(16,16),(0,0),(32,32)]) (kf:=[8,7,23,6,20,5,4,3,2]) (s':=([(8,.sc (.i .u64 (iMul .u64 ((F45 p1).getD k1 0) 19))),(7,qi (k1:Int)),(23,qi (k1:Int)),(6,qi (k0:Int)),(20,qi (k0:Int)),(5,qp 144 0),(4,qp 32 0),(3,qp 16 0),(2,qp 0 0)],[(144,.ints .u64 10 z1),(16,.ints .u64 5 (F45 p1)),(0,.ints .u64 5 (F45 p0)),(32,.ints .u64 5 [0,0,0,0,0])])) (by kernel_rfl) (by kernel_rfl)).trans (Sub.of_eq (by simp only [sel_true,sel_false]))
    ·
     have h3':=of_decide_eq_false h3
     refine Tri.skip ?_
     exact (Sub.ren (ns:=[(144,144),(16,16),(0,0),(32,32)]) (kf:=[8,7,23,6,20,5,4,3,2]) (s':=([(8,.sc (.i .u64 ((F45 p1).getD k1 0))),(7,qi (k1:Int)),(23,qi (k1:Int)),(6,qi (k0:Int)),(20,qi (k0:Int)),(5,qp 144 0),(4,qp 32 0),(3,qp 16 0),(2,qp 0 0)],[(144,.ints .u64 10 z1),(16,.ints .u64 5 (F45 p1)),(0,.ints .u64 5 (F45 p0)),(32,.ints .u64 5 [0,0,0,0,0])])) (by kernel_rfl) (by kernel_rfl)).trans (Sub.of_eq (by simp only [sel_true,sel_false]))
    ·
     change Tri _ _ _ _ _ _
     refine rr [(38,.i .i64 ((k0 + k1:Nat):Int)),(39,.i .i64 (((k0 + k1) % 5:Nat):Int)),(42,.i .i64 ((k0 + k1:Nat):Int)),(43,.i .i64 (((k0 + k1) % 5:Nat):Int))] (some [0,0,3,7,0,0,48,112,240,496,0,0,3072,7168,0,32752,65535,131071]) [23,6,20,5,4,3,2] [144,16,0,32] (TT∧(TT∧((True∧((iAdd .i64 (k0:Int) (k1:Int))=((k0 + k1:Nat):Int)))∧(((5 ≠ (0:Int))∧((iRem ((k0 + k1:Nat):Int) 5)=(((k0 + k1) % 5:Nat):Int)))∧(TT∧(TT∧((True∧((iAdd .i64 (k0:Int) (k1:Int))=((k0 + k1:Nat):Int)))∧(((5 ≠ (0:Int))∧((iRem ((k0 + k1:Nat):Int) 5)=(((k0 + k1) % 5:Nat):Int)))∧((((0:Int)≤(((k0 + k1) % 5:Nat):Int)∧(((k0 + k1) % 5:Nat):Int) < ((5:Nat):Int))∧True)∧((((((k0 + k1) % 5) * 2) + 2≤10)∧True)∧(TT∧(TT∧((((0:Int)≤(k0:Int)∧(k0:Int) < ((5:Nat):Int))∧True)∧(((k0 < 5)∧True)∧(TT∧(((True∧(rng ((z1.drop (((k0 + k1) % 5) * 2)).take 2)∧0≤((F45 p0).getD k0 0)∧((F45 p0).getD k0 0) < 18446744073709551616∧0≤(sel (decide ((((k0 + k1:Nat):Int):Int) > 4)) (iMul .u64 ((F45 p1).getD k1 0) 19) ((F45 p1).getD k1 0))∧(sel (decide ((((k0 + k1:Nat):Int):Int) > 4)) (iMul .u64 ((F45 p1).getD k1 0) 19) ((F45 p1).getD k1 0)) < 18446744073709551616))∧True)∧((((0:Int)≤(((k0 + k1) % 5:Nat):Int)∧(((k0 + k1) % 5:Nat):Int) < ((5:Nat):Int))∧True)∧(((((((k0 + k1) % 5) * 2) + 2≤10)∧(2=2))∧True)∧True))))))))))))))))))
       ([(23,qi (k1:Int)),(6,qi (k0:Int)),(20,qi (k0:Int)),(5,qp 144 0),(4,qp 32 0),(3,qp 16 0),(2,qp 0 0)],[(144,.ints .u64 10 (splice z1 (((k0 + k1) % 5) * 2) (F47 ((z1.drop (((k0 + k1) % 5) * 2)).take 2) ((F45 p0).getD k0 0) (sel (decide ((((k0 + k1:Nat):Int):Int) > 4)) (iMul .u64 ((F45 p1).getD k1 0) 19) ((F45 p1).getD k1 0))))),(16,.ints .u64 5 (F45 p1)),(0,.ints .u64 5 (F45 p0)),(32,.ints .u64 5 [0,0,0,0,0])])
       768 (⟨tt,⟨tt,⟨⟨trivial,(iAdd_nat (a:=k0) (b:=k1) (by omega))⟩,⟨⟨(by omega),(iRem_nat (a:=k0 + k1) (b:=5))⟩,⟨tt,⟨tt,⟨⟨trivial,(iAdd_nat (a:=k0) (b:=k1) (by omega))⟩,⟨⟨(by omega),(iRem_nat (a:=k0 + k1) (b:=5))⟩,⟨⟨(by omega),trivial⟩,⟨⟨(by omega),trivial⟩,⟨tt,⟨tt,⟨⟨(by omega),trivial⟩,⟨⟨(by omega),trivial⟩,⟨tt,⟨⟨⟨trivial,(pre47 hJ1 (rng45 hlen.1) (rng45 hlen.2.1))⟩,trivial⟩,⟨⟨(by omega),trivial⟩,⟨⟨⟨(by omega),(rfl)⟩,trivial⟩,trivial⟩⟩⟩⟩⟩⟩⟩⟩⟩⟩⟩⟩⟩⟩⟩⟩⟩⟩) ?_
     change Tri _ _ _ _ _ _
     refine rr [(53,.i .i64 ((k1 + 1:Nat):Int))] none [23,6,20,5,4,3,2] [144,16,0,32] ((True∧((iAdd .i64 (k1:Int) 1)=((k1 + 1:Nat):Int)))∧(TT∧True))
       ([(23,qi ((k1 + 1:Nat):Int)),(6,qi (k0:Int)),(20,qi (k0:Int)),(5,qp 144 0),(4,qp 32 0),(3,qp 16 0),(2,qp 0 0)],[(144,.ints .u64 10 (splice z1 (((k0 + k1) % 5) * 2) (F47 ((z1.drop (((k0 + k1) % 5) * 2)).take 2) ((F45 p0).getD k0 0) (sel (decide ((((k0 + k1:Nat):Int):Int) > 4)) (iMul .u64 ((F45 p1).getD k1 0) 19) ((F45 p1).getD k1 0))))),(16,.ints .u64 5 (F45 p1)),(0,.ints .u64 5 (F45 p0)),(32,.ints .u64 5 [0,0,0,0,0])])
       800 (⟨⟨trivial,(iAdd_nat (a:=k1) (b:=1) (by omega))⟩,⟨tt,trivial⟩⟩) ?_
     refine countP_normal (by omega) (show rng (F20l1 p0 p1 k0 k1 z1) from rng_splice hJ1 (rng47 (rng_part hJ1 _ _) _ _)) ?_
     exact Sub.ren (ns:=[(144,144),(16,16),(0,0),(32,32)]) (kf:=[23,6,20,5,4,3,2]) (by kernel_rfl) (by kernel_rfl)
   ·
    have h2':=of_decide_eq_false h2
    refine Tri.exit ?_
    have hend1:k1=5:=by (have:=of_decide_eq_false h2; omega)
    subst hend1; subst hz1
    change Tri _ _ _ _ _ _
    refine rr [(54,.i .i64 ((k0 + 1:Nat):Int))] none [20,5,4,3,2] [144,16,0,32] ((True∧((iAdd .i64 (k0:Int) 1)=((k0 + 1:Nat):Int)))∧(TT∧True))
      ([(20,qi ((k0 + 1:Nat):Int)),(5,qp 144 0),(4,qp 32 0),(3,qp 16 0),(2,qp 0 0)],[(144,.ints .u64 10 (itr (F20l1 p0 p1 k0) 5 z0)),(16,.ints .u64 5 (F45 p1)),(0,.ints .u64 5 (F45 p0)),(32,.ints .u64 5 [0,0,0,0,0])])
      288 (⟨⟨trivial,(iAdd_nat (a:=k0) (b:=1) (by omega))⟩,⟨tt,trivial⟩⟩) ?_
    refine countP_normal (by omega) hJ1 ?_
    exact Sub.ren (ns:=[(144,144),(16,16),(0,0),(32,32)]) (kf:=[20,5,4,3,2]) (by kernel_rfl) (by kernel_rfl)
  ·
   have h1':=of_decide_eq_false h1
   refine Tri.exit ?_
   have hend0:k0=5:=by (have:=of_decide_eq_false h1; omega)
   subst hend0; subst hz0
   change Tri _ _ _ _ _ _
   refine sr [] none [9,5,4] [192,144,32] (TT∧True)
     ([(9,qp 192 0),(5,qp 144 0),(4,qp 32 0)],[(192,.ints .u64 5 [0,0,0,0,0]),(144,.ints .u64 10 (itr (F20l0 p0 p1) 5 [0,0,0,0,0,0,0,0,0,0])),(32,.ints .u64 5 [0,0,0,0,0])])
     208 (⟨tt,trivial⟩) ?_
   refine sr [] none [10,9,5,4] [192,144,32] (TT∧True)
     ([(10,.sc (.i .u64 0)),(9,qp 192 0),(5,qp 144 0),(4,qp 32 0)],[(192,.ints .u64 5 [0,0,0,0,0]),(144,.ints .u64 10 (itr (F20l0 p0 p1) 5 [0,0,0,0,0,0,0,0,0,0])),(32,.ints .u64 5 [0,0,0,0,0])])
     224 (⟨tt,trivial⟩) ?_
   refine Tri.seq ?_
   refine sr [] none [56,55,10,9,4] [192,32] (TT∧(TT∧True))
     ([(56,qi 0),(55,.ints .u64 10 (itr (F20l0 p0 p1) 5 [0,0,0,0,0,0,0,0,0,0])),(10,.sc (.i .u64 0)),(9,qp 192 0),(4,qp 32 0)],[(192,.ints .u64 5 [0,0,0,0,0]),(32,.ints .u64 5 [0,0,0,0,0])])
     256 (⟨tt,⟨tt,trivial⟩⟩) ?_
   refine Tri.block ?_
   refine Tri.count 256 5 (F20l2 p0 p1) (0,[0,0,0,0,0]) (fun k2 z2 => 0≤z2.1) (fun k2 z2 => ([(56,qi (k2:Int)),(55,.ints .u64 10 (itr (F20l0 p0 p1) 5 [0,0,0,0,0,0,0,0,0,0])),(10,.sc (.i .u64 z2.1)),(9,qp 192 0),(4,qp 32 0)],[(192,.ints .u64 5 z2.2),(32,.ints .u64 5 [0,0,0,0,0])])) (Int.le_refl 0) (Sub.of_eq (by kernel_rfl)) ?_
   intro k2 z2 hk2 hz2 hJ2
   refine sr [] none [57,56,55,10,9,4] [192,32] (TT∧True)
     ([(57,.sc (.b (decide (((k2:Int):Int) < 5)))),(56,qi (k2:Int)),(55,.ints .u64 10 (itr (F20l0 p0 p1) 5 [0,0,0,0,0,0,0,0,0,0])),(10,.sc (.i .u64 z2.1)),(9,qp 192 0),(4,qp 32 0)],[(192,.ints .u64 5 z2.2),(32,.ints .u64 5 [0,0,0,0,0])])
     272 (⟨tt,trivial⟩) ?_
   refine Tri.seq ?_
   refine Tri.cond (x:=(decide (((k2:Int):Int) < 5))) (by kernel_rfl) (fun h4 => ?_) (fun h4 => ?_)
   ·
    have h4':=of_decide_eq_true h4
    refine Tri.skip ?_
    change Tri _ _ _ _ _ _
    refine Tri.seq ?_
    refine Tri.block ?_
    refine sr [] none [11,12,56,55,10,9,4] [304,192,32] (TT∧(((((0:Int)≤(k2:Int)∧(k2:Int) < ((5:Nat):Int))∧((k2 * 2) + 2≤10))∧True)∧(TT∧(TT∧(((True∧(2=2))∧True)∧True)))))
      ([(11,qi (k2:Int)),(12,qp 304 0),(56,qi (k2:Int)),(55,.ints .u64 10 (itr (F20l0 p0 p1) 5 [0,0,0,0,0,0,0,0,0,0])),(10,.sc (.i .u64 z2.1)),(9,qp 192 0),(4,qp 32 0)],[(304,.ints .u64 2 (((itr (F20l0 p0 p1) 5 [0,0,0,0,0,0,0,0,0,0]).drop (k2 * 2)).take 2)),(192,.ints .u64 5 z2.2),(32,.ints .u64 5 [0,0,0,0,0])])
      352 (⟨tt,⟨⟨⟨(by omega),(by omega)⟩,trivial⟩,⟨tt,⟨tt,⟨⟨⟨trivial,(rfl)⟩,trivial⟩,trivial⟩⟩⟩⟩⟩) ?_
    refine sr [] none [14,13,11,12,56,55,9,4] [304,192,32] (TT∧(((1 < 2)∧True)∧(TT∧(((True∧((0:Int)≤((((itr (F20l0 p0 p1) 5 [0,0,0,0,0,0,0,0,0,0]).drop (k2 * 2)).take 2).getD 1 0)∧(0:Int)≤z2.1∧(0:Int)≤0∧(0:Int)≤1))∧True)∧(TT∧(TT∧(TT∧(TT∧(TT∧True)))))))))
      ([(14,.sc (.i .u64 (add64c ((((itr (F20l0 p0 p1) 5 [0,0,0,0,0,0,0,0,0,0]).drop (k2 * 2)).take 2).getD 1 0) z2.1 0))),(13,.sc (.i .u64 (add64 ((((itr (F20l0 p0 p1) 5 [0,0,0,0,0,0,0,0,0,0]).drop (k2 * 2)).take 2).getD 1 0) z2.1 0))),(11,qi (k2:Int)),(12,qp 304 0),(56,qi (k2:Int)),(55,.ints .u64 10 (itr (F20l0 p0 p1) 5 [0,0,0,0,0,0,0,0,0,0])),(9,qp 192 0),(4,qp 32 0)],[(304,.ints .u64 2 (((itr (F20l0 p0 p1) 5 [0,0,0,0,0,0,0,0,0,0]).drop (k2 * 2)).take 2)),(192,.ints .u64 5 z2.2),(32,.ints .u64 5 [0,0,0,0,0])])
      496 (⟨tt,⟨⟨(by omega),trivial⟩,⟨tt,⟨⟨⟨trivial,(⟨(rng_part hJ0 _ _ 1).1,hJ2,by omega,by omega⟩)⟩,trivial⟩,⟨tt,⟨tt,⟨tt,⟨tt,⟨tt,trivial⟩⟩⟩⟩⟩⟩⟩⟩⟩) ?_
    refine sr [] none [15,13,11,56,55,9,4] [192,32] (TT∧(((0 < 2)∧True)∧(TT∧(TT∧(TT∧True)))))
      ([(15,.sc (.i .u64 (iAdd .u64 ((((itr (F20l0 p0 p1) 5 [0,0,0,0,0,0,0,0,0,0]).drop (k2 * 2)).take 2).getD 0 0) (add64c ((((itr (F20l0 p0 p1) 5 [0,0,0,0,0,0,0,0,0,0]).drop (k2 * 2)).take 2).getD 1 0) z2.1 0)))),(13,.sc (.i .u64 (add64 ((((itr (F20l0 p0 p1) 5 [0,0,0,0,0,0,0,0,0,0]).drop (k2 * 2)).take 2).getD 1 0) z2.1 0))),(11,qi (k2:Int)),(56,qi (k2:Int)),(55,.ints .u64 10 (itr (F20l0 p0 p1) 5 [0,0,0,0,0,0,0,0,0,0])),(9,qp 192 0),(4,qp 32 0)],[(192,.ints .u64 5 z2.2),(32,.ints .u64 5 [0,0,0,0,0])])
      576 (⟨tt,⟨⟨(by omega),trivial⟩,⟨tt,⟨tt,⟨tt,trivial⟩⟩⟩⟩⟩) ?_
    refine sr [] none [15,13,56,55,9,4] [192,32] (TT∧(TT∧(TT∧(TT∧((((0:Int)≤(k2:Int)∧(k2:Int) < ((5:Nat):Int))∧True)∧((((k2 < 5)∧(1=1))∧True)∧True))))))
      ([(15,.sc (.i .u64 (iAdd .u64 ((((itr (F20l0 p0 p1) 5 [0,0,0,0,0,0,0,0,0,0]).drop (k2 * 2)).take 2).getD 0 0) (add64c ((((itr (F20l0 p0 p1) 5 [0,0,0,0,0,0,0,0,0,0]).drop (k2 * 2)).take 2).getD 1 0) z2.1 0)))),(13,.sc (.i .u64 (add64 ((((itr (F20l0 p0 p1) 5 [0,0,0,0,0,0,0,0,0,0]).drop (k2 * 2)).take 2).getD 1 0) z2.1 0))),(56,qi (k2:Int)),(55,.ints .u64 10 (itr (F20l0 p0 p1) 5 [0,0,0,0,0,0,0,0,0,0])),(9,qp 192 0),(4,qp 32 0)],[(192,.ints .u64 5 (z2.2.set k2 (iAnd .u64 (add64 ((((itr (F20l0 p0 p1) 5 [0,0,0,0,0,0,0,0,0,0]).drop (k2 * 2)).take 2).getD 1 0) z2.1 0) 2251799813685247))),(32,.ints .u64 5 [0,0,0,0,0])])
      672 (⟨tt,⟨tt,⟨tt,⟨tt,⟨⟨(by omega),trivial⟩,⟨⟨⟨(by omega),(rfl)⟩,trivial⟩,trivial⟩⟩⟩⟩⟩⟩) ?_
    refine rr [] none [10,56,55,9,4] [192,32] (TT∧((((0:Int)≤13)∧True)∧(TT∧((((0:Int)≤51)∧True)∧(TT∧(TT∧True))))))
      ([(10,.sc (.i .u64 (iOr .u64 (iShl .u64 (iAdd .u64 ((((itr (F20l0 p0 p1) 5 [0,0,0,0,0,0,0,0,0,0]).drop (k2 * 2)).take 2).getD 0 0) (add64c ((((itr (F20l0 p0 p1) 5 [0,0,0,0,0,0,0,0,0,0]).drop (k2 * 2)).take 2).getD 1 0) z2.1 0)) 13) (iShr .u64 (add64 ((((itr (F20l0 p0 p1) 5 [0,0,0,0,0,0,0,0,0,0]).drop (k2 * 2)).take 2).getD 1 0) z2.1 0) 51)))),(56,qi (k2:Int)),(55,.ints .u64 10 (itr (F20l0 p0 p1) 5 [0,0,0,0,0,0,0,0,0,0])),(9,qp 192 0),(4,qp 32 0)],[(192,.ints .u64 5 (z2.2.set k2 (iAnd .u64 (add64 ((((itr (F20l0 p0 p1) 5 [0,0,0,0,0,0,0,0,0,0]).drop (k2 * 2)).take 2).getD 1 0) z2.1 0) 2251799813685247))),(32,.ints .u64 5 [0,0,0,0,0])])
      768 (⟨tt,⟨⟨(by omega),trivial⟩,⟨tt,⟨⟨(by omega),trivial⟩,⟨tt,⟨tt,trivial⟩⟩⟩⟩⟩⟩) ?_
    change Tri _ _ _ _ _ _
    refine rr [(81,.i .i64 ((k2 + 1:Nat):Int))] none [56,10,55,9,4] [192,32] ((True∧((iAdd .i64 (k2:Int) 1)=((k2 + 1:Nat):Int)))∧(TT∧True))
      ([(56,qi ((k2 + 1:Nat):Int)),(10,.sc (.i .u64 (iOr .u64 (iShl .u64 (iAdd .u64 ((((itr (F20l0 p0 p1) 5 [0,0,0,0,0,0,0,0,0,0]).drop (k2 * 2)).take 2).getD 0 0) (add64c ((((itr (F20l0 p0 p1) 5 [0,0,0,0,0,0,0,0,0,0]).drop (k2 * 2)).take 2).getD 1 0) z2.1 0)) 13) (iShr .u64 (add64 ((((itr (F20l0 p0 p1) 5 [0,0,0,0,0,0,0,0,0,0]).drop (k2 * 2)).take 2).getD 1 0) z2.1 0) 51)))),(55,.ints .u64 10 (itr (F20l0 p0 p1) 5 [0,0,0,0,0,0,0,0,0,0])),(9,qp 192 0),(4,qp 32 0)],[(192,.ints .u64 5 (z2.2.set k2 (iAnd .u64 (add64 ((((itr (F20l0 p0 p1) 5 [0,0,0,0,0,0,0,0,0,0]).drop (k2 * 2)).take 2).getD 1 0) z2.1 0) 2251799813685247))),(32,.ints .u64 5 [0,0,0,0,0])])
      800 (⟨⟨trivial,(iAdd_nat (a:=k2) (b:=1) (by omega))⟩,⟨tt,trivial⟩⟩) ?_
    refine countP_normal (by omega) (show 0≤IntKind.wrap .u64 _ from (wrap64_rng _).1) ?_
    exact Sub.ren (ns:=[(192,192),(32,32)]) (kf:=[56,55,10,9,4]) (by kernel_rfl) (by kernel_rfl)
   ·
    have h4':=of_decide_eq_false h4
    refine Tri.exit ?_
    have hend2:k2=5:=by (have:=of_decide_eq_false h4; omega)
    subst hend2; subst hz2
    change Tri _ _ _ _ _ _
    refine sr [] none [9,4] [192,32] (TT∧((((0:Int)≤0∧0 < ((5:Nat):Int))∧True)∧(((0 < 5)∧True)∧(TT∧(TT∧(TT∧(TT∧((((0:Int)≤0∧0 < ((5:Nat):Int))∧True)∧((((0 < 5)∧(1=1))∧True)∧True)))))))))
      ([(9,qp 192 0),(4,qp 32 0)],[(192,.ints .u64 5 (((itr (F20l2 p0 p1) 5 (0,[0,0,0,0,0])).2).set 0 (iAdd .u64 (((itr (F20l2 p0 p1) 5 (0,[0,0,0,0,0])).2).getD 0 0) (iMul .u64 19 ((itr (F20l2 p0 p1) 5 (0,[0,0,0,0,0])).1))))),(32,.ints .u64 5 [0,0,0,0,0])])
      416 (⟨tt,⟨⟨(by omega),trivial⟩,⟨⟨(by omega),trivial⟩,⟨tt,⟨tt,⟨tt,⟨tt,⟨⟨(by omega),trivial⟩,⟨⟨⟨(by omega),(rfl)⟩,trivial⟩,trivial⟩⟩⟩⟩⟩⟩⟩⟩⟩) ?_
    refine sr [] none [4] [32] (TT∧((TT∧True)∧(((True∧(5=5))∧True)∧True)))
      ([(4,qp 32 0)],[(32,.ints .u64 5 (F45 (((itr (F20l2 p0 p1) 5 (0,[0,0,0,0,0])).2).set 0 (iAdd .u64 (((itr (F20l2 p0 p1) 5 (0,[0,0,0,0,0])).2).getD 0 0) (iMul .u64 19 ((itr (F20l2 p0 p1) 5 (0,[0,0,0,0,0])).1))))))])
      464 (⟨tt,⟨⟨tt,trivial⟩,⟨⟨⟨trivial,(rfl)⟩,trivial⟩,trivial⟩⟩⟩) ?_
    refine Tri.ret ?_
    exact endP.ret [] TT (by kernel_rfl) (by kernel_rfl) (by kernel_rfl) tt
noncomputable def F30 (p0:Int):List Int :=
 [(IntKind.wrap .u64 p0),0,0,0,0]
noncomputable def S30:List AV→Option (Prop × Ret)
 | [.sc (.i .u32 p0)] => some (True,⟨.ints .u64 5 (F30 p0),[]⟩)
 | _ => none
noncomputable def B30:Bs:={ P:=Go.Proofs.Tryd.prog,G:=gD,tab:=tabOf [],n:=7 }
theorem B30.ok:B30.Ok:=⟨tabOk (P:=Go.Proofs.Tryd.prog) (G:=gD) (l:=[]) True.intro,mixed⟩
theorem K30:Known Go.Proofs.Tryd.prog gD 35 ⟨[.val],0,S30⟩:=by
 refine Known.walk (B:=B30) (fn:=Go.Proofs.Tryd.f35) B30.ok (by kernel_rfl) rfl (by kernel_rfl) (by kernel_rfl) (by decide) ?_ ?_
 ·intro vs C r h
  simp only at h
  unfold S30 at h
  split at h
  ·cases h; rfl
  ·cases h
 ·intro E args C r h hC hlen
  simp only at h
  unfold S30 at h
  split at h
  rotate_left
  ·cases h
  rename_i p0
  cases h
  simp only [lens] at hlen
  refine ⟨show 1≤7 from by decide,?_⟩
  refine Tri.sub (Sub.of_eq (show _=([(0,.sc (.i .u32 p0))],[]) from rfl)) ?_
  refine sr [] none [2,0] [0] (TT∧True)
    ([(2,qp 0 0),(0,.sc (.i .u32 p0))],[(0,.ints .u64 5 [0,0,0,0,0])])
    16 (⟨tt,trivial⟩) ?_
  refine sr [] none [2] [0] (TT∧(TT∧(((((0 < 5)∧(1=1))∧True)∧True)∧((((True∧(5=5))∧True)∧True)∧(((True∧(5=5))∧True)∧True)))))
    ([(2,qp 0 0)],[(0,.ints .u64 5 [(IntKind.wrap .u64 p0),0,0,0,0])])
    96 (⟨tt,⟨tt,⟨⟨⟨⟨(by omega),(rfl)⟩,trivial⟩,trivial⟩,⟨⟨⟨⟨trivial,(rfl)⟩,trivial⟩,trivial⟩,⟨⟨⟨trivial,(rfl)⟩,trivial⟩,trivial⟩⟩⟩⟩⟩) ?_
  refine Tri.ret ?_
  exact endP.ret [] TT (by kernel_rfl) (by kernel_rfl) (by kernel_rfl) tt
noncomputable def F50l0 (k0:Nat) (z0:List Int):List Int :=
 z0.set k0 255
noncomputable def F50 (p0:Int) (p1:Int):List Int :=
 ((itr (F50l0) 32 (List.replicate 32 0)).set 0 (iSub .u8 0 p1)).set 31 (iSub .u8 (iShl .u8 1 (iSub .i64 p0 248)) 1)
noncomputable def S50:List AV→Option (Prop × Ret)
 | [.sc (.i .i64 p0),.sc (.i .u8 p1)] => some ((248:Int)≤p0∧p0≤(255:Int),⟨.sc (.sl 0 0 32 1 none),[.ints .u8 32 (F50 p0 p1)]⟩)
 | _ => none
noncomputable def B50:Bs:={ P:=Go.Proofs.Tryd.prog,G:=gD,tab:=tabOf [],n:=28 }
theorem B50.ok:B50.Ok:=⟨tabOk (P:=Go.Proofs.Tryd.prog) (G:=gD) (l:=[]) True.intro,mixed⟩
theorem K50:Known Go.Proofs.Tryd.prog gD 73 ⟨[.val,.val],1,S50⟩:=by
 refine Known.walk (B:=B50) (fn:=Go.Proofs.Tryd.f73) B50.ok (by kernel_rfl) rfl (by kernel_rfl) (by kernel_rfl) (by decide) ?_ ?_
 ·intro vs C r h
  simp only at h
  unfold S50 at h
  split at h
  ·cases h; rfl
  ·cases h
 ·intro E args C r h hC hlen
  simp only at h
  unfold S50 at h
  split at h
  rotate_left
  ·cases h
  rename_i p0 p1
  cases h
  simp only [lens] at hlen
  refine ⟨show 2≤28 from by decide,?_⟩
  refine Tri.sub (Sub.of_eq (show _=([(0,qi p0),(1,.sc (.i .u8 p1))],[]) from rfl)) ?_
  refine sr [] none [0,1] [] (TT∧True)
    ([(0,qi p0),(1,.sc (.i .u8 p1))],[])
    16 (⟨tt,trivial⟩) ?_
  refine sr [] none [5,0,1] [16] (((((0:Int)≤32∧(32:Int)=32)∧((32≤(140737488355328:Int))∧(((1:Nat):Int) * 32≤281474976710656)))∧True)∧(TT∧True))
    ([(5,.sc (.sl 16 0 32 1 none)),(0,qi p0),(1,.sc (.i .u8 p1))],[(16,.ints .u8 32 (List.replicate 32 0))])
    48 (⟨⟨⟨(by omega),⟨(by omega),(by omega)⟩⟩,trivial⟩,⟨tt,trivial⟩⟩) ?_
  refine Tri.seq ?_
  refine sr [] none [10,9,5,0,1] [16] (TT∧(TT∧(TT∧True)))
    ([(10,qi 0),(9,qi 32),(5,.sc (.sl 16 0 32 1 none)),(0,qi p0),(1,.sc (.i .u8 p1))],[(16,.ints .u8 32 (List.replicate 32 0))])
    96 (⟨tt,⟨tt,⟨tt,trivial⟩⟩⟩) ?_
  refine Tri.block ?_
  refine Tri.count 96 32 (F50l0) (List.replicate 32 0) (fun k0 z0 => True) (fun k0 z0 => ([(10,qi (k0:Int)),(9,qi 32),(5,.sc (.sl 16 0 32 1 none)),(0,qi p0),(1,.sc (.i .u8 p1))],[(16,.ints .u8 32 z0)])) trivial (Sub.of_eq (by kernel_rfl)) ?_
  intro k0 z0 hk0 hz0 hJ0
  refine sr [] none [11,10,9,5,0,1] [16] (TT∧True)
    ([(11,.sc (.b (decide (((k0:Int):Int) < 32)))),(10,qi (k0:Int)),(9,qi 32),(5,.sc (.sl 16 0 32 1 none)),(0,qi p0),(1,.sc (.i .u8 p1))],[(16,.ints .u8 32 z0)])
    112 (⟨tt,trivial⟩) ?_
  refine Tri.seq ?_
  refine Tri.cond (x:=(decide (((k0:Int):Int) < 32))) (by kernel_rfl) (fun h1 => ?_) (fun h1 => ?_)
  ·
   have h1':=of_decide_eq_true h1
   refine Tri.skip ?_
   change Tri _ _ _ _ _ _
   refine Tri.seq ?_
   refine Tri.block ?_
   refine sr [] none [6,10,9,5,0,1] [16] (TT∧(TT∧True))
     ([(6,qi (k0:Int)),(10,qi (k0:Int)),(9,qi 32),(5,.sc (.sl 16 0 32 1 none)),(0,qi p0),(1,.sc (.i .u8 p1))],[(16,.ints .u8 32 z0)])
     144 (⟨tt,⟨tt,trivial⟩⟩) ?_
   refine rr [] none [10,9,5,0,1] [16] (TT∧(TT∧((((0:Int)≤(k0:Int)∧(k0:Int) < ((32:Nat):Int))∧True)∧((((k0 < 32)∧(1=1))∧True)∧True))))
     ([(10,qi (k0:Int)),(9,qi 32),(5,.sc (.sl 16 0 32 1 none)),(0,qi p0),(1,.sc (.i .u8 p1))],[(16,.ints .u8 32 (z0.set k0 255))])
     208 (⟨tt,⟨tt,⟨⟨(by omega),trivial⟩,⟨⟨⟨(by omega),(rfl)⟩,trivial⟩,trivial⟩⟩⟩⟩) ?_
   change Tri _ _ _ _ _ _
   refine rr [(16,.i .i64 ((k0 + 1:Nat):Int))] none [10,9,5,0,1] [16] ((True∧((iAdd .i64 (k0:Int) 1)=((k0 + 1:Nat):Int)))∧(TT∧True))
     ([(10,qi ((k0 + 1:Nat):Int)),(9,qi 32),(5,.sc (.sl 16 0 32 1 none)),(0,qi p0),(1,.sc (.i .u8 p1))],[(16,.ints .u8 32 (z0.set k0 255))])
     240 (⟨⟨trivial,(iAdd_nat (a:=k0) (b:=1) (by omega))⟩,⟨tt,trivial⟩⟩) ?_
   refine countP_normal (by omega) trivial ?_
   exact Sub.ren (ns:=[(16,16)]) (kf:=[10,9,5,0,1]) (by kernel_rfl) (by kernel_rfl)
  ·
   have h1':=of_decide_eq_false h1
   refine Tri.exit ?_
   have hend0:k0=32:=by (have:=of_decide_eq_false h1; omega)
   subst hend0; subst hz0
   change Tri _ _ _ _ _ _
   refine sr [] none [5,0] [16] (TT∧(TT∧(TT∧((((0:Int)≤0∧0 < ((32:Nat):Int))∧True)∧((((0 < 32)∧(1=1))∧True)∧True)))))
     ([(5,.sc (.sl 16 0 32 1 none)),(0,qi p0)],[(16,.ints .u8 32 ((itr (F50l0) 32 (List.replicate 32 0)).set 0 (iSub .u8 0 p1)))])
     192 (⟨tt,⟨tt,⟨tt,⟨⟨(by omega),trivial⟩,⟨⟨⟨(by omega),(rfl)⟩,trivial⟩,trivial⟩⟩⟩⟩⟩) ?_
   refine sr [] none [5] [16] (TT∧(TT∧(TT∧((((0:Int)≤(iSub .i64 p0 248))∧True)∧(TT∧((((0:Int)≤31∧31 < ((32:Nat):Int))∧True)∧((((31 < 32)∧(1=1))∧True)∧True)))))))
     ([(5,.sc (.sl 16 0 32 1 none))],[(16,.ints .u8 32 (((itr (F50l0) 32 (List.replicate 32 0)).set 0 (iSub .u8 0 p1)).set 31 (iSub .u8 (iShl .u8 1 (iSub .i64 p0 248)) 1)))])
     304 (⟨tt,⟨tt,⟨tt,⟨⟨(by first | omega | (unfold iSub; rw [wrap_small (by omega) (by omega)]; omega)),trivial⟩,⟨tt,⟨⟨(by omega),trivial⟩,⟨⟨⟨(by omega),(rfl)⟩,trivial⟩,trivial⟩⟩⟩⟩⟩⟩⟩) ?_
   refine sr [] none [4] [16] (TT∧(TT∧True))
     ([(4,.sc (.sl 16 0 32 1 none))],[(16,.ints .u8 32 (((itr (F50l0) 32 (List.replicate 32 0)).set 0 (iSub .u8 0 p1)).set 31 (iSub .u8 (iShl .u8 1 (iSub .i64 p0 248)) 1)))])
     336 (⟨tt,⟨tt,trivial⟩⟩) ?_
   refine Tri.ret ?_
   exact endP.ret [(16,0)] TT (by kernel_rfl) (by kernel_rfl) (by kernel_rfl) tt
theorem len50 (a b:Int):(F50 a b).length=32:=by
 have h:∀ (n:Nat) (z:List Int),z.length=32→(itr F50l0 n z).length=32:=by
  intro n z hz
  induction n with
  | zero => rw [itr_zero]; exact hz
  | succ n ih => rw [itr_succ]; show (List.set _ _ _).length=32; rw [List.length_set]; exact ih
 unfold F50
 simp [h]
noncomputable def F26l0 (p0:List Int) (p1:List Int) (k0:Nat) (z0:List Int):List Int :=
 (sel (((iAnd .u8 (iShr .u8 (p1.getD (((8 * p1.length) - 1 - k0) / 8) 0) ((((8 * p1.length) - 1 - k0) % 8:Nat):Int)) 1):Int) == 1) (F20 (F20 z0 z0) p0) (F20 z0 z0))
noncomputable def F26 (p0:List Int) (p1:List Int):List Int :=
 (itr (F26l0 p0 p1) (8 * p1.length) (F30 1))
noncomputable def S26:List AV→Option (Prop × Ret)
 | [.ints .u64 5 p0,.sc (.ro .u8 p1)] => some (p1.length≤1000000,⟨.ints .u64 5 (F26 p0 p1),[]⟩)
 | _ => none
noncomputable def B26:Bs:={ P:=Go.Proofs.Tryd.prog,G:=gD,tab:=tabOf [(35,⟨[.val],0,S30⟩),(51,⟨[.val,.val],0,S20⟩)],n:=33 }
theorem B26.ok:B26.Ok:=⟨tabOk (P:=Go.Proofs.Tryd.prog) (G:=gD) (l:=[(35,⟨[.val],0,S30⟩),(51,⟨[.val,.val],0,S20⟩)]) (And.intro K30 (And.intro K20 True.intro)),mixed⟩
theorem K26:Known Go.Proofs.Tryd.prog gD 72 ⟨[.val,.ro .u8],0,S26⟩:=by
 refine Known.walk (B:=B26) (fn:=Go.Proofs.Tryd.f72) B26.ok (by kernel_rfl) rfl (by kernel_rfl) (by kernel_rfl) (by decide) ?_ ?_
 ·intro vs C r h
  simp only at h
  unfold S26 at h
  split at h
  ·cases h; rfl
  ·cases h
 ·intro E args C r h hC hlen
  simp only at h
  unfold S26 at h
  split at h
  rotate_left
  ·cases h
  rename_i p0 p1
  cases h
  simp only [lens] at hlen
  refine ⟨show 2≤33 from by decide,?_⟩
  refine Tri.sub (Sub.of_eq (show _=([(0,.ints .u64 5 p0),(1,qr p1)],[]) from rfl)) ?_
  refine sr [] none [4,2,1] [16,0] (TT∧(TT∧True))
    ([(4,qp 16 0),(2,qp 0 0),(1,qr p1)],[(16,.ints .u64 5 [0,0,0,0,0]),(0,.ints .u64 5 p0)])
    32 (⟨tt,⟨tt,trivial⟩⟩) ?_
  refine sr [] none [5,4,2,1] [48,16,0] ((TT∧True)∧(TT∧(((True∧(5=5))∧True)∧True)))
    ([(5,qp 48 0),(4,qp 16 0),(2,qp 0 0),(1,qr p1)],[(48,.ints .u64 5 (F30 1)),(16,.ints .u64 5 [0,0,0,0,0]),(0,.ints .u64 5 p0)])
    80 (⟨⟨tt,trivial⟩,⟨tt,⟨⟨⟨trivial,(rfl)⟩,trivial⟩,trivial⟩⟩⟩) ?_
  refine Tri.seq ?_
  refine sr [(10,.i .i64 ((8 * p1.length:Nat):Int)),(11,.i .i64 (((8 * p1.length:Nat):Int) - 1 - ((0:Nat):Int)))] none [6,5,4,2,1] [48,16,0] (TT∧(TT∧((True∧((iMul .i64 8 (p1.length:Int))=((8 * p1.length:Nat):Int)))∧((True∧((iSub .i64 ((8 * p1.length:Nat):Int) 1)=(((8 * p1.length:Nat):Int) - 1 - ((0:Nat):Int))))∧(TT∧True)))))
    ([(6,qi (((8 * p1.length:Nat):Int) - 1 - ((0:Nat):Int))),(5,qp 48 0),(4,qp 16 0),(2,qp 0 0),(1,qr p1)],[(48,.ints .u64 5 (F30 1)),(16,.ints .u64 5 [0,0,0,0,0]),(0,.ints .u64 5 p0)])
    160 (⟨tt,⟨tt,⟨⟨trivial,(iMul_nat (a:=8) (b:=p1.length) (by omega))⟩,⟨⟨trivial,(iSub_dn0 (by omega))⟩,⟨tt,trivial⟩⟩⟩⟩⟩) ?_
  refine Tri.block ?_
  refine Tri.count 160 (8 * p1.length) (F26l0 p0 p1) (F30 1) (fun k0 z0 => True) (fun k0 z0 => ([(6,qi (((8 * p1.length:Nat):Int) - 1 - (k0:Int))),(5,qp 48 0),(4,qp 16 0),(2,qp 0 0),(1,qr p1)],[(48,.ints .u64 5 z0),(16,.ints .u64 5 [0,0,0,0,0]),(0,.ints .u64 5 p0)])) trivial (Sub.of_eq (by kernel_rfl)) ?_
  intro k0 z0 hk0 hz0 hJ0
  refine Tri.seq ?_
  refine sr [] none [13,6,5,4,2,1] [48,16,0] (TT∧(TT∧True))
    ([(13,.sc (.b (decide (((((8 * p1.length:Nat):Int) - 1 - (k0:Int)):Int) ≥ 0)))),(6,qi (((8 * p1.length:Nat):Int) - 1 - (k0:Int))),(5,qp 48 0),(4,qp 16 0),(2,qp 0 0),(1,qr p1)],[(48,.ints .u64 5 z0),(16,.ints .u64 5 [0,0,0,0,0]),(0,.ints .u64 5 p0)])
    192 (⟨tt,⟨tt,trivial⟩⟩) ?_
  refine Tri.cond (x:=(decide (((((8 * p1.length:Nat):Int) - 1 - (k0:Int)):Int) ≥ 0))) (by kernel_rfl) (fun h1 => ?_) (fun h1 => ?_)
  ·
   have h1':=of_decide_eq_true h1
   refine Tri.skip ?_
   change Tri _ _ _ _ _ _
   refine Tri.seq ?_
   refine Tri.block ?_
   refine sr [] none [6,5,4,2,1] [48,16,0] (TT∧(TT∧((TT∧True)∧(((True∧(5=5))∧True)∧True))))
     ([(6,qi (((8 * p1.length:Nat):Int) - 1 - (k0:Int))),(5,qp 48 0),(4,qp 16 0),(2,qp 0 0),(1,qr p1)],[(48,.ints .u64 5 (F20 z0 z0)),(16,.ints .u64 5 [0,0,0,0,0]),(0,.ints .u64 5 p0)])
     256 (⟨tt,⟨tt,⟨⟨tt,trivial⟩,⟨⟨⟨trivial,(rfl)⟩,trivial⟩,trivial⟩⟩⟩⟩) ?_
   refine sr [(21,.i .i64 ((((8 * p1.length) - 1 - k0) / 8:Nat):Int)),(25,.i .i64 ((((8 * p1.length) - 1 - k0) % 8:Nat):Int))] none [28,6,5,4,2,1] [48,16,0] (TT∧(TT∧(((8 ≠ (0:Int))∧((iQuo .i64 (((8 * p1.length:Nat):Int) - 1 - (k0:Int)) 8)=((((8 * p1.length) - 1 - k0) / 8:Nat):Int)))∧((((0:Int)≤((((8 * p1.length) - 1 - k0) / 8:Nat):Int)∧((((8 * p1.length) - 1 - k0) / 8:Nat):Int) < (p1.length:Int))∧True)∧(((((8 * p1.length) - 1 - k0) / 8 < p1.length)∧True)∧(TT∧(((8 ≠ (0:Int))∧((iRem (((8 * p1.length:Nat):Int) - 1 - (k0:Int)) 8)=((((8 * p1.length) - 1 - k0) % 8:Nat):Int)))∧((((0:Int)≤((((8 * p1.length) - 1 - k0) % 8:Nat):Int))∧True)∧(TT∧(TT∧True))))))))))
     ([(28,.sc (.b (((iAnd .u8 (iShr .u8 (p1.getD (((8 * p1.length) - 1 - k0) / 8) 0) ((((8 * p1.length) - 1 - k0) % 8:Nat):Int)) 1):Int) == 1))),(6,qi (((8 * p1.length:Nat):Int) - 1 - (k0:Int))),(5,qp 48 0),(4,qp 16 0),(2,qp 0 0),(1,qr p1)],[(48,.ints .u64 5 (F20 z0 z0)),(16,.ints .u64 5 [0,0,0,0,0]),(0,.ints .u64 5 p0)])
     416 (⟨tt,⟨tt,⟨⟨(by omega),(by rw [dn_nat (by omega)]; exact iQuo_nat (b:=8) (by omega))⟩,⟨⟨(by omega),trivial⟩,⟨⟨(by omega),trivial⟩,⟨tt,⟨⟨(by omega),(by rw [dn_nat (by omega)]; exact iRem_nat (b:=8))⟩,⟨⟨(by omega),trivial⟩,⟨tt,⟨tt,trivial⟩⟩⟩⟩⟩⟩⟩⟩⟩⟩) ?_
   refine Tri.join (x:=(((iAnd .u8 (iShr .u8 (p1.getD (((8 * p1.length) - 1 - k0) / 8) 0) ((((8 * p1.length) - 1 - k0) % 8:Nat):Int)) 1):Int) == 1)) (fun bb => ([(6,qi (((8 * p1.length:Nat):Int) - 1 - (k0:Int))),(5,qp 48 0),(4,qp 16 0),(2,qp 0 0),(1,qr p1)],[(48,.ints .u64 5 (sel bb (F20 (F20 z0 z0) p0) (F20 z0 z0))),(16,.ints .u64 5 [0,0,0,0,0]),(0,.ints .u64 5 p0)])) 480 (by kernel_rfl) (fun h2 => ?_) (fun h2 => ?_) ?_
   ·
    have h2':=eq_true_i h2
    refine rr [] none [6,5,4,2,1] [48,16,0] (TT∧(TT∧((TT∧True)∧(((True∧(5=5))∧True)∧True))))
      ([(6,qi (((8 * p1.length:Nat):Int) - 1 - (k0:Int))),(5,qp 48 0),(4,qp 16 0),(2,qp 0 0),(1,qr p1)],[(48,.ints .u64 5 (F20 (F20 z0 z0) p0)),(16,.ints .u64 5 [0,0,0,0,0]),(0,.ints .u64 5 p0)])
      480 (⟨tt,⟨tt,⟨⟨tt,trivial⟩,⟨⟨⟨trivial,(rfl)⟩,trivial⟩,trivial⟩⟩⟩⟩) ?_
    exact (Sub.ren (ns:=[(48,48),(16,16),(0,0)]) (kf:=[6,5,4,2,1]) (s':=([(6,qi (((8 * p1.length:Nat):Int) - 1 - (k0:Int))),(5,qp 48 0),(4,qp 16 0),(2,qp 0 0),(1,qr p1)],[(48,.ints .u64 5 (F20 (F20 z0 z0) p0)),(16,.ints .u64 5 [0,0,0,0,0]),(0,.ints .u64 5 p0)])) (by kernel_rfl) (by kernel_rfl)).trans (Sub.of_eq (by simp only [sel_true,sel_false]))
   ·
    have h2':=eq_false_i h2
    refine Tri.skip ?_
    exact (Sub.ren (ns:=[(48,48),(16,16),(0,0)]) (kf:=[6,5,4,2,1]) (s':=([(6,qi (((8 * p1.length:Nat):Int) - 1 - (k0:Int))),(5,qp 48 0),(4,qp 16 0),(2,qp 0 0),(1,qr p1)],[(48,.ints .u64 5 (F20 z0 z0)),(16,.ints .u64 5 [0,0,0,0,0]),(0,.ints .u64 5 p0)])) (by kernel_rfl) (by kernel_rfl)).trans (Sub.of_eq (by simp only [sel_true,sel_false]))
   ·
    change Tri _ _ _ _ _ _
    refine rr [(15,.i .i64 (((8 * p1.length:Nat):Int) - 1 - ((k0 + 1:Nat):Int)))] none [6,5,4,2,1] [48,16,0] (TT∧((True∧((iSub .i64 (((8 * p1.length:Nat):Int) - 1 - (k0:Int)) 1)=(((8 * p1.length:Nat):Int) - 1 - ((k0 + 1:Nat):Int))))∧(TT∧True)))
      ([(6,qi (((8 * p1.length:Nat):Int) - 1 - ((k0 + 1:Nat):Int))),(5,qp 48 0),(4,qp 16 0),(2,qp 0 0),(1,qr p1)],[(48,.ints .u64 5 (sel (((iAnd .u8 (iShr .u8 (p1.getD (((8 * p1.length) - 1 - k0) / 8) 0) ((((8 * p1.length) - 1 - k0) % 8:Nat):Int)) 1):Int) == 1) (F20 (F20 z0 z0) p0) (F20 z0 z0))),(16,.ints .u64 5 [0,0,0,0,0]),(0,.ints .u64 5 p0)])
      528 (⟨tt,⟨⟨trivial,(iSub_dn (by omega) (by omega))⟩,⟨tt,trivial⟩⟩⟩) ?_
    refine countP_normal (by omega) trivial ?_
    exact Sub.ren (ns:=[(48,48),(16,16),(0,0)]) (kf:=[6,5,4,2,1]) (by kernel_rfl) (by kernel_rfl)
  ·
   have h1':=of_decide_eq_false h1
   refine Tri.exit ?_
   have hend0:k0=(8 * p1.length):=by (have:=of_decide_eq_false h1; omega)
   subst hend0; subst hz0
   change Tri _ _ _ _ _ _
   refine sr [] none [4] [16] (TT∧(((True∧(5=5))∧True)∧True))
     ([(4,qp 16 0)],[(16,.ints .u64 5 (itr (F26l0 p0 p1) (8 * p1.length) (F30 1)))])
     224 (⟨tt,⟨⟨⟨trivial,(rfl)⟩,trivial⟩,trivial⟩⟩) ?_
   refine Tri.ret ?_
   exact endP.ret [] TT (by kernel_rfl) (by kernel_rfl) (by kernel_rfl) tt
noncomputable def F25 (p0:List Int):List Int :=
 (F26 p0 (part1 (F50 255 21) 32 0 32))
noncomputable def S25:List AV→Option (Prop × Ret)
 | [.ints .u64 5 p0] => some (True,⟨.ints .u64 5 (F25 p0),[]⟩)
 | _ => none
noncomputable def B25:Bs:={ P:=Go.Proofs.Tryd.prog,G:=gD,tab:=tabOf [(72,⟨[.val,.ro .u8],0,S26⟩),(73,⟨[.val,.val],1,S50⟩)],n:=6 }
theorem B25.ok:B25.Ok:=⟨tabOk (P:=Go.Proofs.Tryd.prog) (G:=gD) (l:=[(72,⟨[.val,.ro .u8],0,S26⟩),(73,⟨[.val,.val],1,S50⟩)]) (And.intro K26 (And.intro K50 True.intro)),mixed⟩
theorem K25:Known Go.Proofs.Tryd.prog gD 50 ⟨[.val],0,S25⟩:=by
 refine Known.walk (B:=B25) (fn:=Go.Proofs.Tryd.f50) B25.ok (by kernel_rfl) rfl (by kernel_rfl) (by kernel_rfl) (by decide) ?_ ?_
 ·intro vs C r h
  simp only at h
  unfold S25 at h
  split at h
  ·cases h; rfl
  ·cases h
 ·intro E args C r h hC hlen
  simp only at h
  unfold S25 at h
  split at h
  rotate_left
  ·cases h
  rename_i p0
  cases h
  simp only [lens] at hlen
  refine ⟨show 1≤6 from by decide,?_⟩
  refine Tri.sub (Sub.of_eq (show _=([(0,.ints .u64 5 p0)],[]) from rfl)) ?_
  refine sr [] none [2,1] [16,0] (TT∧(TT∧True))
    ([(2,qp 16 0),(1,qp 0 0)],[(16,.ints .u64 5 [0,0,0,0,0]),(0,.ints .u64 5 p0)])
    32 (⟨tt,⟨tt,trivial⟩⟩) ?_
  refine sr [] (some [0,0,3,7]) [2] [16] (TT∧(((True∧((248:Int)≤255∧255≤(255:Int)))∧True)∧(((((0 + 32≤32)∧True)∧((part1 (F50 255 21) 32 0 32).length≤1000000))∧True)∧(((True∧(5=5))∧True)∧True))))
    ([(2,qp 16 0)],[(16,.ints .u64 5 (F26 p0 (part1 (F50 255 21) 32 0 32)))])
    96 (⟨tt,⟨⟨⟨trivial,(by omega)⟩,trivial⟩,⟨⟨⟨⟨(by omega),trivial⟩,(by rw [part1_all (len50 _ _),len50]; decide)⟩,trivial⟩,⟨⟨⟨trivial,(rfl)⟩,trivial⟩,trivial⟩⟩⟩⟩) ?_
  refine Tri.ret ?_
  exact endP.ret [] TT (by kernel_rfl) (by kernel_rfl) (by kernel_rfl) tt
noncomputable def F52l0 (p0:List Int) (k0:Nat) (z0:Int):Int :=
 (iShr .u64 (iAdd .u64 ((F45 (F45 p0)).getD (k0 + 1) 0) z0) 51)
noncomputable def F52l1 (k1:Nat) (z1:List Int):List Int :=
 (z1.set (k1 + 1) (iAdd .u64 (z1.getD (k1 + 1) 0) (iShr .u64 (z1.getD k1 0) 51))).set k1 (iAnd .u64 ((z1.set (k1 + 1) (iAdd .u64 (z1.getD (k1 + 1) 0) (iShr .u64 (z1.getD k1 0) 51))).getD k1 0) 2251799813685247)
noncomputable def F52 (p0:List Int):List Int :=
 (itr (F52l1) 4 ((F45 (F45 p0)).set 0 (iAdd .u64 ((F45 (F45 p0)).getD 0 0) (iMul .u64 19 (itr (F52l0 p0) 4 (iShr .u64 (iAdd .u64 ((F45 (F45 p0)).getD 0 0) 19) 51)))))).set 4 (iAnd .u64 ((itr (F52l1) 4 ((F45 (F45 p0)).set 0 (iAdd .u64 ((F45 (F45 p0)).getD 0 0) (iMul .u64 19 (itr (F52l0 p0) 4 (iShr .u64 (iAdd .u64 ((F45 (F45 p0)).getD 0 0) 19) 51)))))).getD 4 0) 2251799813685247)
noncomputable def S52:List AV→Option (Prop × Ret)
 | [.ints .u64 5 p0] => some (True,⟨.ints .u64 5 (F52 p0),[]⟩)
 | _ => none
noncomputable def B52:Bs:={ P:=Go.Proofs.Tryd.prog,G:=gD,tab:=tabOf [(65,⟨[.val],0,S45⟩)],n:=64 }
theorem B52.ok:B52.Ok:=⟨tabOk (P:=Go.Proofs.Tryd.prog) (G:=gD) (l:=[(65,⟨[.val],0,S45⟩)]) (And.intro K45 True.intro),mixed⟩
theorem K52:Known Go.Proofs.Tryd.prog gD 71 ⟨[.val],0,S52⟩:=by
 refine Known.walk (B:=B52) (fn:=Go.Proofs.Tryd.f71) B52.ok (by kernel_rfl) rfl (by kernel_rfl) (by kernel_rfl) (by decide) ?_ ?_
 ·intro vs C r h
  simp only at h
  unfold S52 at h
  split at h
  ·cases h; rfl
  ·cases h
 ·intro E args C r h hC hlen
  simp only at h
  unfold S52 at h
  split at h
  rotate_left
  ·cases h
  rename_i p0
  cases h
  simp only [lens] at hlen
  refine ⟨show 1≤64 from by decide,?_⟩
  refine Tri.sub (Sub.of_eq (show _=([(0,.ints .u64 5 p0)],[]) from rfl)) ?_
  refine sr [] none [2,1] [16,0] (TT∧(TT∧True))
    ([(2,qp 16 0),(1,qp 0 0)],[(16,.ints .u64 5 [0,0,0,0,0]),(0,.ints .u64 5 p0)])
    32 (⟨tt,⟨tt,trivial⟩⟩) ?_
  refine sr [] none [2,1] [0,16] (TT∧((TT∧True)∧((TT∧True)∧(((True∧(5=5))∧True)∧True))))
    ([(2,qp 16 0),(1,qp 0 0)],[(0,.ints .u64 5 (F45 (F45 p0))),(16,.ints .u64 5 [0,0,0,0,0])])
    96 (⟨tt,⟨⟨tt,trivial⟩,⟨⟨tt,trivial⟩,⟨⟨⟨trivial,(rfl)⟩,trivial⟩,trivial⟩⟩⟩⟩) ?_
  refine sr [] none [3,2,1] [0,16] (TT∧((((0:Int)≤0∧0 < ((5:Nat):Int))∧True)∧(((0 < 5)∧True)∧(TT∧((((0:Int)≤51)∧True)∧(TT∧True))))))
    ([(3,.sc (.i .u64 (iShr .u64 (iAdd .u64 ((F45 (F45 p0)).getD 0 0) 19) 51))),(2,qp 16 0),(1,qp 0 0)],[(0,.ints .u64 5 (F45 (F45 p0))),(16,.ints .u64 5 [0,0,0,0,0])])
    192 (⟨tt,⟨⟨(by omega),trivial⟩,⟨⟨(by omega),trivial⟩,⟨tt,⟨⟨(by omega),trivial⟩,⟨tt,trivial⟩⟩⟩⟩⟩⟩) ?_
  refine Tri.seq ?_
  refine sr [] none [4,3,2,1] [0,16] (TT∧True)
    ([(4,qi 1),(3,.sc (.i .u64 (iShr .u64 (iAdd .u64 ((F45 (F45 p0)).getD 0 0) 19) 51))),(2,qp 16 0),(1,qp 0 0)],[(0,.ints .u64 5 (F45 (F45 p0))),(16,.ints .u64 5 [0,0,0,0,0])])
    208 (⟨tt,trivial⟩) ?_
  refine Tri.block ?_
  refine Tri.count 208 4 (F52l0 p0) (iShr .u64 (iAdd .u64 ((F45 (F45 p0)).getD 0 0) 19) 51) (fun k0 z0 => True) (fun k0 z0 => ([(4,qi ((k0 + 1:Nat):Int)),(3,.sc (.i .u64 z0)),(2,qp 16 0),(1,qp 0 0)],[(0,.ints .u64 5 (F45 (F45 p0))),(16,.ints .u64 5 [0,0,0,0,0])])) trivial (Sub.of_eq (by kernel_rfl)) ?_
  intro k0 z0 hk0 hz0 hJ0
  refine Tri.seq ?_
  refine sr [] none [15,4,3,2,1] [0,16] (TT∧(TT∧True))
    ([(15,.sc (.b (decide ((((k0 + 1:Nat):Int):Int) < 5)))),(4,qi ((k0 + 1:Nat):Int)),(3,.sc (.i .u64 z0)),(2,qp 16 0),(1,qp 0 0)],[(0,.ints .u64 5 (F45 (F45 p0))),(16,.ints .u64 5 [0,0,0,0,0])])
    240 (⟨tt,⟨tt,trivial⟩⟩) ?_
  refine Tri.cond (x:=(decide ((((k0 + 1:Nat):Int):Int) < 5))) (by kernel_rfl) (fun h1 => ?_) (fun h1 => ?_)
  ·
   have h1':=of_decide_eq_true h1
   refine Tri.skip ?_
   change Tri _ _ _ _ _ _
   refine Tri.seq ?_
   refine Tri.block ?_
   refine rr [] none [3,4,2,1] [0,16] (TT∧(TT∧((((0:Int)≤((k0 + 1:Nat):Int)∧((k0 + 1:Nat):Int) < ((5:Nat):Int))∧True)∧(((k0 + 1 < 5)∧True)∧(TT∧(TT∧((((0:Int)≤51)∧True)∧(TT∧True))))))))
     ([(3,.sc (.i .u64 (iShr .u64 (iAdd .u64 ((F45 (F45 p0)).getD (k0 + 1) 0) z0) 51))),(4,qi ((k0 + 1:Nat):Int)),(2,qp 16 0),(1,qp 0 0)],[(0,.ints .u64 5 (F45 (F45 p0))),(16,.ints .u64 5 [0,0,0,0,0])])
     368 (⟨tt,⟨tt,⟨⟨(by omega),trivial⟩,⟨⟨(by omega),trivial⟩,⟨tt,⟨tt,⟨⟨(by omega),trivial⟩,⟨tt,trivial⟩⟩⟩⟩⟩⟩⟩⟩) ?_
   change Tri _ _ _ _ _ _
   refine rr [(17,.i .i64 (((k0 + 1) + 1:Nat):Int))] none [4,3,2,1] [0,16] (TT∧((True∧((iAdd .i64 ((k0 + 1:Nat):Int) 1)=(((k0 + 1) + 1:Nat):Int)))∧(TT∧True)))
     ([(4,qi (((k0 + 1) + 1:Nat):Int)),(3,.sc (.i .u64 (iShr .u64 (iAdd .u64 ((F45 (F45 p0)).getD (k0 + 1) 0) z0) 51))),(2,qp 16 0),(1,qp 0 0)],[(0,.ints .u64 5 (F45 (F45 p0))),(16,.ints .u64 5 [0,0,0,0,0])])
     416 (⟨tt,⟨⟨trivial,(iAdd_nat (a:=k0 + 1) (b:=1) (by omega))⟩,⟨tt,trivial⟩⟩⟩) ?_
   refine countP_normal (by omega) trivial ?_
   exact Sub.ren (ns:=[(0,0),(16,16)]) (kf:=[4,3,2,1]) (by kernel_rfl) (by kernel_rfl)
  ·
   have h1':=of_decide_eq_false h1
   refine Tri.exit ?_
   have hend0:k0=4:=by (have:=of_decide_eq_false h1; omega)
   subst hend0; subst hz0
   change Tri _ _ _ _ _ _
   refine sr [] none [2,1] [0,16] (TT∧((((0:Int)≤0∧0 < ((5:Nat):Int))∧True)∧(((0 < 5)∧True)∧(TT∧(TT∧(TT∧(TT∧((((0:Int)≤0∧0 < ((5:Nat):Int))∧True)∧((((0 < 5)∧(1=1))∧True)∧True)))))))))
     ([(2,qp 16 0),(1,qp 0 0)],[(0,.ints .u64 5 ((F45 (F45 p0)).set 0 (iAdd .u64 ((F45 (F45 p0)).getD 0 0) (iMul .u64 19 (itr (F52l0 p0) 4 (iShr .u64 (iAdd .u64 ((F45 (F45 p0)).getD 0 0) 19) 51)))))),(16,.ints .u64 5 [0,0,0,0,0])])
     384 (⟨tt,⟨⟨(by omega),trivial⟩,⟨⟨(by omega),trivial⟩,⟨tt,⟨tt,⟨tt,⟨tt,⟨⟨(by omega),trivial⟩,⟨⟨⟨(by omega),(rfl)⟩,trivial⟩,trivial⟩⟩⟩⟩⟩⟩⟩⟩⟩) ?_
   refine Tri.seq ?_
   refine sr [] none [33,2,1] [0,16] (TT∧True)
     ([(33,qi 0),(2,qp 16 0),(1,qp 0 0)],[(0,.ints .u64 5 ((F45 (F45 p0)).set 0 (iAdd .u64 ((F45 (F45 p0)).getD 0 0) (iMul .u64 19 (itr (F52l0 p0) 4 (iShr .u64 (iAdd .u64 ((F45 (F45 p0)).getD 0 0) 19) 51)))))),(16,.ints .u64 5 [0,0,0,0,0])])
     400 (⟨tt,trivial⟩) ?_
   refine Tri.block ?_
   refine Tri.count 400 4 (F52l1) ((F45 (F45 p0)).set 0 (iAdd .u64 ((F45 (F45 p0)).getD 0 0) (iMul .u64 19 (itr (F52l0 p0) 4 (iShr .u64 (iAdd .u64 ((F45 (F45 p0)).getD 0 0) 19) 51))))) (fun k1 z1 => True) (fun k1 z1 => ([(33,qi (k1:Int)),(2,qp 16 0),(1,qp 0 0)],[(0,.ints .u64 5 z1),(16,.ints .u64 5 [0,0,0,0,0])])) trivial (Sub.of_eq (by kernel_rfl)) ?_
   intro k1 z1 hk1 hz1 hJ1
   refine sr [] none [34,33,2,1] [0,16] (TT∧True)
     ([(34,.sc (.b (decide (((k1:Int):Int) < 4)))),(33,qi (k1:Int)),(2,qp 16 0),(1,qp 0 0)],[(0,.ints .u64 5 z1),(16,.ints .u64 5 [0,0,0,0,0])])
     416 (⟨tt,trivial⟩) ?_
   refine Tri.seq ?_
   refine Tri.cond (x:=(decide (((k1:Int):Int) < 4))) (by kernel_rfl) (fun h2 => ?_) (fun h2 => ?_)
   ·
    have h2':=of_decide_eq_true h2
    refine Tri.skip ?_
    change Tri _ _ _ _ _ _
    refine Tri.seq ?_
    refine Tri.block ?_
    refine sr [] none [5,33,2,1] [0,16] (TT∧(TT∧True))
      ([(5,qi (k1:Int)),(33,qi (k1:Int)),(2,qp 16 0),(1,qp 0 0)],[(0,.ints .u64 5 z1),(16,.ints .u64 5 [0,0,0,0,0])])
      448 (⟨tt,⟨tt,trivial⟩⟩) ?_
    refine sr [(37,.i .i64 ((k1 + 1:Nat):Int))] (some [0,1,0,7,15,0,0,96,224,480,1023,0,4095,8191]) [5,33,2,1] [0,16] (TT∧((True∧((iAdd .i64 (k1:Int) 1)=((k1 + 1:Nat):Int)))∧(TT∧((((0:Int)≤((k1 + 1:Nat):Int)∧((k1 + 1:Nat):Int) < ((5:Nat):Int))∧True)∧(((k1 + 1 < 5)∧True)∧(TT∧(TT∧((((0:Int)≤(k1:Int)∧(k1:Int) < ((5:Nat):Int))∧True)∧(((k1 < 5)∧True)∧((((0:Int)≤51)∧True)∧(TT∧(TT∧((((0:Int)≤((k1 + 1:Nat):Int)∧((k1 + 1:Nat):Int) < ((5:Nat):Int))∧True)∧((((k1 + 1 < 5)∧(1=1))∧True)∧True))))))))))))))
      ([(5,qi (k1:Int)),(33,qi (k1:Int)),(2,qp 16 0),(1,qp 0 0)],[(0,.ints .u64 5 (z1.set (k1 + 1) (iAdd .u64 (z1.getD (k1 + 1) 0) (iShr .u64 (z1.getD k1 0) 51)))),(16,.ints .u64 5 [0,0,0,0,0])])
      672 (⟨tt,⟨⟨trivial,(iAdd_nat (a:=k1) (b:=1) (by omega))⟩,⟨tt,⟨⟨(by omega),trivial⟩,⟨⟨(by omega),trivial⟩,⟨tt,⟨tt,⟨⟨(by omega),trivial⟩,⟨⟨(by omega),trivial⟩,⟨⟨(by omega),trivial⟩,⟨tt,⟨tt,⟨⟨(by omega),trivial⟩,⟨⟨⟨(by omega),(rfl)⟩,trivial⟩,trivial⟩⟩⟩⟩⟩⟩⟩⟩⟩⟩⟩⟩⟩⟩) ?_
    refine rr [] none [33,2,1] [0,16] (TT∧(TT∧((((0:Int)≤(k1:Int)∧(k1:Int) < ((5:Nat):Int))∧True)∧(((k1 < 5)∧True)∧(TT∧(TT∧((((0:Int)≤(k1:Int)∧(k1:Int) < ((5:Nat):Int))∧True)∧((((k1 < 5)∧(1=1))∧True)∧True))))))))
      ([(33,qi (k1:Int)),(2,qp 16 0),(1,qp 0 0)],[(0,.ints .u64 5 ((z1.set (k1 + 1) (iAdd .u64 (z1.getD (k1 + 1) 0) (iShr .u64 (z1.getD k1 0) 51))).set k1 (iAnd .u64 ((z1.set (k1 + 1) (iAdd .u64 (z1.getD (k1 + 1) 0) (iShr .u64 (z1.getD k1 0) 51))).getD k1 0) 2251799813685247))),(16,.ints .u64 5 [0,0,0,0,0])])
      800 (⟨tt,⟨tt,⟨⟨(by omega),trivial⟩,⟨⟨(by omega),trivial⟩,⟨tt,⟨tt,⟨⟨(by omega),trivial⟩,⟨⟨⟨(by omega),(rfl)⟩,trivial⟩,trivial⟩⟩⟩⟩⟩⟩⟩⟩) ?_
    change Tri _ _ _ _ _ _
    refine rr [(56,.i .i64 ((k1 + 1:Nat):Int))] none [33,2,1] [0,16] ((True∧((iAdd .i64 (k1:Int) 1)=((k1 + 1:Nat):Int)))∧(TT∧True))
      ([(33,qi ((k1 + 1:Nat):Int)),(2,qp 16 0),(1,qp 0 0)],[(0,.ints .u64 5 ((z1.set (k1 + 1) (iAdd .u64 (z1.getD (k1 + 1) 0) (iShr .u64 (z1.getD k1 0) 51))).set k1 (iAnd .u64 ((z1.set (k1 + 1) (iAdd .u64 (z1.getD (k1 + 1) 0) (iShr .u64 (z1.getD k1 0) 51))).getD k1 0) 2251799813685247))),(16,.ints .u64 5 [0,0,0,0,0])])
      832 (⟨⟨trivial,(iAdd_nat (a:=k1) (b:=1) (by omega))⟩,⟨tt,trivial⟩⟩) ?_
    refine countP_normal (by omega) trivial ?_
    exact Sub.ren (ns:=[(0,0),(16,16)]) (kf:=[33,2,1]) (by kernel_rfl) (by kernel_rfl)
   ·
    have h2':=of_decide_eq_false h2
    refine Tri.exit ?_
    have hend1:k1=4:=by (have:=of_decide_eq_false h2; omega)
    subst hend1; subst hz1
    change Tri _ _ _ _ _ _
    refine sr [] none [2,1] [0,16] (TT∧((((0:Int)≤4∧4 < ((5:Nat):Int))∧True)∧(((4 < 5)∧True)∧(TT∧(TT∧((((0:Int)≤4∧4 < ((5:Nat):Int))∧True)∧((((4 < 5)∧(1=1))∧True)∧True)))))))
      ([(2,qp 16 0),(1,qp 0 0)],[(0,.ints .u64 5 ((itr (F52l1) 4 ((F45 (F45 p0)).set 0 (iAdd .u64 ((F45 (F45 p0)).getD 0 0) (iMul .u64 19 (itr (F52l0 p0) 4 (iShr .u64 (iAdd .u64 ((F45 (F45 p0)).getD 0 0) 19) 51)))))).set 4 (iAnd .u64 ((itr (F52l1) 4 ((F45 (F45 p0)).set 0 (iAdd .u64 ((F45 (F45 p0)).getD 0 0) (iMul .u64 19 (itr (F52l0 p0) 4 (iShr .u64 (iAdd .u64 ((F45 (F45 p0)).getD 0 0) 19) 51)))))).getD 4 0) 2251799813685247))),(16,.ints .u64 5 [0,0,0,0,0])])
      528 (⟨tt,⟨⟨(by omega),trivial⟩,⟨⟨(by omega),trivial⟩,⟨tt,⟨tt,⟨⟨(by omega),trivial⟩,⟨⟨⟨(by omega),(rfl)⟩,trivial⟩,trivial⟩⟩⟩⟩⟩⟩⟩) ?_
    refine sr [] none [2] [16] (TT∧(((True∧(5=5))∧True)∧True))
      ([(2,qp 16 0)],[(16,.ints .u64 5 ((itr (F52l1) 4 ((F45 (F45 p0)).set 0 (iAdd .u64 ((F45 (F45 p0)).getD 0 0) (iMul .u64 19 (itr (F52l0 p0) 4 (iShr .u64 (iAdd .u64 ((F45 (F45 p0)).getD 0 0) 19) 51)))))).set 4 (iAnd .u64 ((itr (F52l1) 4 ((F45 (F45 p0)).set 0 (iAdd .u64 ((F45 (F45 p0)).getD 0 0) (iMul .u64 19 (itr (F52l0 p0) 4 (iShr .u64 (iAdd .u64 ((F45 (F45 p0)).getD 0 0) 19) 51)))))).getD 4 0) 2251799813685247)))])
      560 (⟨tt,⟨⟨⟨trivial,(rfl)⟩,trivial⟩,trivial⟩⟩) ?_
    refine Tri.ret ?_
    exact endP.ret [] TT (by kernel_rfl) (by kernel_rfl) (by kernel_rfl) tt
noncomputable def F33l0 (p0:List Int) (k0:Nat) (z0:List Int):List Int :=
 z0.set (k0 / 8) (iOr .u8 (z0.getD (k0 / 8) 0) (iShl .u8 (IntKind.wrap .u8 (iAnd .u64 (iShr .u64 ((F52 p0).getD (k0 / 51) 0) ((k0 % 51:Nat):Int)) 1)) ((k0 % 8:Nat):Int)))
noncomputable def F33 (p0:List Int):List Int :=
 (itr (F33l0 p0) 255 [0,0,0,0,0,0,0,0,0,0,0,0,0,0,0,0,0,0,0,0,0,0,0,0,0,0,0,0,0,0,0,0])
noncomputable def S33:List AV→Option (Prop × Ret)
 | [.ints .u64 5 p0] => some (True,⟨.ints .u8 32 (F33 p0),[]⟩)
 | _ => none
noncomputable def B33:Bs:={ P:=Go.Proofs.Tryd.prog,G:=gD,tab:=tabOf [(71,⟨[.val],0,S52⟩)],n:=31 }
theorem B33.ok:B33.Ok:=⟨tabOk (P:=Go.Proofs.Tryd.prog) (G:=gD) (l:=[(71,⟨[.val],0,S52⟩)]) (And.intro K52 True.intro),mixed⟩
theorem K33:Known Go.Proofs.Tryd.prog gD 49 ⟨[.val],0,S33⟩:=by
 refine Known.walk (B:=B33) (fn:=Go.Proofs.Tryd.f49) B33.ok (by kernel_rfl) rfl (by kernel_rfl) (by kernel_rfl) (by decide) ?_ ?_
 ·intro vs C r h
  simp only at h
  unfold S33 at h
  split at h
  ·cases h; rfl
  ·cases h
 ·intro E args C r h hC hlen
  simp only at h
  unfold S33 at h
  split at h
  rotate_left
  ·cases h
  rename_i p0
  cases h
  simp only [lens] at hlen
  refine ⟨show 1≤31 from by decide,?_⟩
  refine Tri.sub (Sub.of_eq (show _=([(0,.ints .u64 5 p0)],[]) from rfl)) ?_
  refine sr [] none [2,1] [16,0] (TT∧(TT∧True))
    ([(2,qp 16 0),(1,qp 0 0)],[(16,.ints .u8 32 [0,0,0,0,0,0,0,0,0,0,0,0,0,0,0,0,0,0,0,0,0,0,0,0,0,0,0,0,0,0,0,0]),(0,.ints .u64 5 p0)])
    32 (⟨tt,⟨tt,trivial⟩⟩) ?_
  refine sr [] none [2,1] [0,16] (TT∧((TT∧True)∧(((True∧(5=5))∧True)∧True)))
    ([(2,qp 16 0),(1,qp 0 0)],[(0,.ints .u64 5 (F52 p0)),(16,.ints .u8 32 [0,0,0,0,0,0,0,0,0,0,0,0,0,0,0,0,0,0,0,0,0,0,0,0,0,0,0,0,0,0,0,0])])
    80 (⟨tt,⟨⟨tt,trivial⟩,⟨⟨⟨trivial,(rfl)⟩,trivial⟩,trivial⟩⟩⟩) ?_
  refine sr [] none [3,2,1] [80,0,16] (TT∧True)
    ([(3,qp 80 0),(2,qp 16 0),(1,qp 0 0)],[(80,.ints .u8 32 [0,0,0,0,0,0,0,0,0,0,0,0,0,0,0,0,0,0,0,0,0,0,0,0,0,0,0,0,0,0,0,0]),(0,.ints .u64 5 (F52 p0)),(16,.ints .u8 32 [0,0,0,0,0,0,0,0,0,0,0,0,0,0,0,0,0,0,0,0,0,0,0,0,0,0,0,0,0,0,0,0])])
    96 (⟨tt,trivial⟩) ?_
  refine Tri.seq ?_
  refine sr [] none [7,3,2,1] [80,0,16] (TT∧True)
    ([(7,qi 0),(3,qp 80 0),(2,qp 16 0),(1,qp 0 0)],[(80,.ints .u8 32 [0,0,0,0,0,0,0,0,0,0,0,0,0,0,0,0,0,0,0,0,0,0,0,0,0,0,0,0,0,0,0,0]),(0,.ints .u64 5 (F52 p0)),(16,.ints .u8 32 [0,0,0,0,0,0,0,0,0,0,0,0,0,0,0,0,0,0,0,0,0,0,0,0,0,0,0,0,0,0,0,0])])
    112 (⟨tt,trivial⟩) ?_
  refine Tri.block ?_
  refine Tri.count 112 255 (F33l0 p0) [0,0,0,0,0,0,0,0,0,0,0,0,0,0,0,0,0,0,0,0,0,0,0,0,0,0,0,0,0,0,0,0] (fun k0 z0 => True) (fun k0 z0 => ([(7,qi (k0:Int)),(3,qp 80 0),(2,qp 16 0),(1,qp 0 0)],[(80,.ints .u8 32 z0),(0,.ints .u64 5 (F52 p0)),(16,.ints .u8 32 [0,0,0,0,0,0,0,0,0,0,0,0,0,0,0,0,0,0,0,0,0,0,0,0,0,0,0,0,0,0,0,0])])) trivial (Sub.of_eq (by kernel_rfl)) ?_
  intro k0 z0 hk0 hz0 hJ0
  refine sr [] none [8,7,3,2,1] [80,0,16] (TT∧True)
    ([(8,.sc (.b (decide (((k0:Int):Int) < 255)))),(7,qi (k0:Int)),(3,qp 80 0),(2,qp 16 0),(1,qp 0 0)],[(80,.ints .u8 32 z0),(0,.ints .u64 5 (F52 p0)),(16,.ints .u8 32 [0,0,0,0,0,0,0,0,0,0,0,0,0,0,0,0,0,0,0,0,0,0,0,0,0,0,0,0,0,0,0,0])])
    128 (⟨tt,trivial⟩) ?_
  refine Tri.seq ?_
  refine Tri.cond (x:=(decide (((k0:Int):Int) < 255))) (by kernel_rfl) (fun h1 => ?_) (fun h1 => ?_)
  ·
   have h1':=of_decide_eq_true h1
   refine Tri.skip ?_
   change Tri _ _ _ _ _ _
   refine Tri.seq ?_
   refine Tri.block ?_
   refine sr [] none [4,7,3,2,1] [80,0,16] (TT∧(TT∧True))
     ([(4,qi (k0:Int)),(7,qi (k0:Int)),(3,qp 80 0),(2,qp 16 0),(1,qp 0 0)],[(80,.ints .u8 32 z0),(0,.ints .u64 5 (F52 p0)),(16,.ints .u8 32 [0,0,0,0,0,0,0,0,0,0,0,0,0,0,0,0,0,0,0,0,0,0,0,0,0,0,0,0,0,0,0,0])])
     160 (⟨tt,⟨tt,trivial⟩⟩) ?_
   refine rr [(11,.i .i64 ((k0 / 8:Nat):Int)),(15,.i .i64 ((k0 / 51:Nat):Int)),(20,.i .i64 ((k0 % 51:Nat):Int)),(25,.i .i64 ((k0 % 8:Nat):Int))] (some [0,1,3,7,0,16,0,112,240,0,512,2032,4080,8176,0,16384,65520,131071,262143,524287]) [7,3,2,1] [80,0,16] (TT∧(((8 ≠ (0:Int))∧((iQuo .i64 (k0:Int) 8)=((k0 / 8:Nat):Int)))∧((((0:Int)≤((k0 / 8:Nat):Int)∧((k0 / 8:Nat):Int) < ((32:Nat):Int))∧True)∧(((k0 / 8 < 32)∧True)∧(TT∧(((51 ≠ (0:Int))∧((iQuo .i64 (k0:Int) 51)=((k0 / 51:Nat):Int)))∧(TT∧((((0:Int)≤((k0 / 51:Nat):Int)∧((k0 / 51:Nat):Int) < ((5:Nat):Int))∧True)∧(((k0 / 51 < 5)∧True)∧(TT∧(((51 ≠ (0:Int))∧((iRem (k0:Int) 51)=((k0 % 51:Nat):Int)))∧((((0:Int)≤((k0 % 51:Nat):Int))∧True)∧(TT∧(TT∧(TT∧(((8 ≠ (0:Int))∧((iRem (k0:Int) 8)=((k0 % 8:Nat):Int)))∧((((0:Int)≤((k0 % 8:Nat):Int))∧True)∧(TT∧((((0:Int)≤((k0 / 8:Nat):Int)∧((k0 / 8:Nat):Int) < ((32:Nat):Int))∧True)∧((((k0 / 8 < 32)∧(1=1))∧True)∧True))))))))))))))))))))
     ([(7,qi (k0:Int)),(3,qp 80 0),(2,qp 16 0),(1,qp 0 0)],[(80,.ints .u8 32 (z0.set (k0 / 8) (iOr .u8 (z0.getD (k0 / 8) 0) (iShl .u8 (IntKind.wrap .u8 (iAnd .u64 (iShr .u64 ((F52 p0).getD (k0 / 51) 0) ((k0 % 51:Nat):Int)) 1)) ((k0 % 8:Nat):Int))))),(0,.ints .u64 5 (F52 p0)),(16,.ints .u8 32 [0,0,0,0,0,0,0,0,0,0,0,0,0,0,0,0,0,0,0,0,0,0,0,0,0,0,0,0,0,0,0,0])])
     480 (⟨tt,⟨⟨(by omega),(iQuo_nat (a:=k0) (b:=8) (by omega))⟩,⟨⟨(by omega),trivial⟩,⟨⟨(by omega),trivial⟩,⟨tt,⟨⟨(by omega),(iQuo_nat (a:=k0) (b:=51) (by omega))⟩,⟨tt,⟨⟨(by omega),trivial⟩,⟨⟨(by omega),trivial⟩,⟨tt,⟨⟨(by omega),(iRem_nat (a:=k0) (b:=51))⟩,⟨⟨(by omega),trivial⟩,⟨tt,⟨tt,⟨tt,⟨⟨(by omega),(iRem_nat (a:=k0) (b:=8))⟩,⟨⟨(by omega),trivial⟩,⟨tt,⟨⟨(by omega),trivial⟩,⟨⟨⟨(by omega),(rfl)⟩,trivial⟩,trivial⟩⟩⟩⟩⟩⟩⟩⟩⟩⟩⟩⟩⟩⟩⟩⟩⟩⟩⟩⟩) ?_
   change Tri _ _ _ _ _ _
   refine rr [(29,.i .i64 ((k0 + 1:Nat):Int))] none [7,3,2,1] [80,0,16] ((True∧((iAdd .i64 (k0:Int) 1)=((k0 + 1:Nat):Int)))∧(TT∧True))
     ([(7,qi ((k0 + 1:Nat):Int)),(3,qp 80 0),(2,qp 16 0),(1,qp 0 0)],[(80,.ints .u8 32 (z0.set (k0 / 8) (iOr .u8 (z0.getD (k0 / 8) 0) (iShl .u8 (IntKind.wrap .u8 (iAnd .u64 (iShr .u64 ((F52 p0).getD (k0 / 51) 0) ((k0 % 51:Nat):Int)) 1)) ((k0 % 8:Nat):Int))))),(0,.ints .u64 5 (F52 p0)),(16,.ints .u8 32 [0,0,0,0,0,0,0,0,0,0,0,0,0,0,0,0,0,0,0,0,0,0,0,0,0,0,0,0,0,0,0,0])])
     512 (⟨⟨trivial,(iAdd_nat (a:=k0) (b:=1) (by omega))⟩,⟨tt,trivial⟩⟩) ?_
   refine countP_normal (by omega) trivial ?_
   exact Sub.ren (ns:=[(80,80),(0,0),(16,16)]) (kf:=[7,3,2,1]) (by kernel_rfl) (by kernel_rfl)
  ·
   have h1':=of_decide_eq_false h1
   refine Tri.exit ?_
   have hend0:k0=255:=by (have:=of_decide_eq_false h1; omega)
   subst hend0; subst hz0
   change Tri _ _ _ _ _ _
   refine sr [] none [2] [16] (TT∧(((True∧(32=32))∧True)∧True))
     ([(2,qp 16 0)],[(16,.ints .u8 32 (itr (F33l0 p0) 255 [0,0,0,0,0,0,0,0,0,0,0,0,0,0,0,0,0,0,0,0,0,0,0,0,0,0,0,0,0,0,0,0]))])
     160 (⟨tt,⟨⟨⟨trivial,(rfl)⟩,trivial⟩,trivial⟩⟩) ?_
   refine Tri.ret ?_
   exact endP.ret [] TT (by kernel_rfl) (by kernel_rfl) (by kernel_rfl) tt
noncomputable def F29 (p0:List Int) (p1:List Int):Bool :=
 (((F33 p0):List Int) == (F33 p1))
noncomputable def S29:List AV→Option (Prop × Ret)
 | [.ints .u64 5 p0,.ints .u64 5 p1] => some (True,⟨.sc (.b (F29 p0 p1)),[]⟩)
 | _ => none
noncomputable def B29:Bs:={ P:=Go.Proofs.Tryd.prog,G:=gD,tab:=tabOf [(49,⟨[.val],0,S33⟩)],n:=10 }
theorem B29.ok:B29.Ok:=⟨tabOk (P:=Go.Proofs.Tryd.prog) (G:=gD) (l:=[(49,⟨[.val],0,S33⟩)]) (And.intro K33 True.intro),mixed⟩
theorem K29:Known Go.Proofs.Tryd.prog gD 63 ⟨[.val,.val],0,S29⟩:=by
 refine Known.walk (B:=B29) (fn:=Go.Proofs.Tryd.f63) B29.ok (by kernel_rfl) rfl (by kernel_rfl) (by kernel_rfl) (by decide) ?_ ?_
 ·intro vs C r h
  simp only at h
  unfold S29 at h
  split at h
  ·cases h; rfl
  ·cases h
 ·intro E args C r h hC hlen
  simp only at h
  unfold S29 at h
  split at h
  rotate_left
  ·cases h
  rename_i p0 p1
  cases h
  simp only [lens] at hlen
  refine ⟨show 2≤10 from by decide,?_⟩
  refine Tri.sub (Sub.of_eq (show _=([(0,.ints .u64 5 p0),(1,.ints .u64 5 p1)],[]) from rfl)) ?_
  refine sr [] none [3,2] [16,0] (TT∧(TT∧(TT∧True)))
    ([(3,qp 16 0),(2,qp 0 0)],[(16,.ints .u64 5 p1),(0,.ints .u64 5 p0)])
    48 (⟨tt,⟨tt,⟨tt,trivial⟩⟩⟩) ?_
  refine sr [] (some [0,1,0,7,15,31]) [4] [] (TT∧((TT∧True)∧(TT∧((TT∧True)∧(TT∧(TT∧True))))))
    ([(4,.sc (.b (((F33 p0):List Int) == (F33 p1))))],[])
    144 (⟨tt,⟨⟨tt,trivial⟩,⟨tt,⟨⟨tt,trivial⟩,⟨tt,⟨tt,trivial⟩⟩⟩⟩⟩⟩) ?_
  refine Tri.ret ?_
  exact endP.ret [] TT (by kernel_rfl) (by kernel_rfl) (by kernel_rfl) tt
noncomputable def F32 (p0:List Int):Bool :=
 (((iAnd .u64 ((F52 p0).getD 0 0) 1):Int) == 1)
noncomputable def S32:List AV→Option (Prop × Ret)
 | [.ints .u64 5 p0] => some (True,⟨.sc (.b (F32 p0)),[]⟩)
 | _ => none
noncomputable def B32:Bs:={ P:=Go.Proofs.Tryd.prog,G:=gD,tab:=tabOf [(71,⟨[.val],0,S52⟩)],n:=9 }
theorem B32.ok:B32.Ok:=⟨tabOk (P:=Go.Proofs.Tryd.prog) (G:=gD) (l:=[(71,⟨[.val],0,S52⟩)]) (And.intro K52 True.intro),mixed⟩
theorem K32:Known Go.Proofs.Tryd.prog gD 52 ⟨[.val],0,S32⟩:=by
 refine Known.walk (B:=B32) (fn:=Go.Proofs.Tryd.f52) B32.ok (by kernel_rfl) rfl (by kernel_rfl) (by kernel_rfl) (by decide) ?_ ?_
 ·intro vs C r h
  simp only at h
  unfold S32 at h
  split at h
  ·cases h; rfl
  ·cases h
 ·intro E args C r h hC hlen
  simp only at h
  unfold S32 at h
  split at h
  rotate_left
  ·cases h
  rename_i p0
  cases h
  simp only [lens] at hlen
  refine ⟨show 1≤9 from by decide,?_⟩
  refine Tri.sub (Sub.of_eq (show _=([(0,.ints .u64 5 p0)],[]) from rfl)) ?_
  refine sr [] none [1] [0] (TT∧(TT∧True))
    ([(1,qp 0 0)],[(0,.ints .u64 5 p0)])
    32 (⟨tt,⟨tt,trivial⟩⟩) ?_
  refine sr [] none [2] [] (TT∧((TT∧True)∧(TT∧(((((0:Int)≤0∧0 < ((5:Nat):Int))∧(0 < 5))∧True)∧(TT∧(TT∧(TT∧True)))))))
    ([(2,.sc (.b (((iAnd .u64 ((F52 p0).getD 0 0) 1):Int) == 1)))],[])
    144 (⟨tt,⟨⟨tt,trivial⟩,⟨tt,⟨⟨⟨(by omega),(by omega)⟩,trivial⟩,⟨tt,⟨tt,⟨tt,trivial⟩⟩⟩⟩⟩⟩⟩) ?_
  refine Tri.ret ?_
  exact endP.ret [] TT (by kernel_rfl) (by kernel_rfl) (by kernel_rfl) tt
noncomputable def F34 (p0:List Int):List Int :=
 (sel (!(F29 (F20 (F26 p0 (part1 (F50 252 2) 32 0 32)) (F26 p0 (part1 (F50 252 2) 32 0 32))) p0)) (F20 (F26 p0 (part1 (F50 252 2) 32 0 32)) (F26 (F30 2) (part1 (F50 253 5) 32 0 32))) (F26 p0 (part1 (F50 252 2) 32 0 32)))
noncomputable def F34_1 (p0:List Int):Bool :=
 (F29 (F20 (sel (!(F29 (F20 (F26 p0 (part1 (F50 252 2) 32 0 32)) (F26 p0 (part1 (F50 252 2) 32 0 32))) p0)) (F20 (F26 p0 (part1 (F50 252 2) 32 0 32)) (F26 (F30 2) (part1 (F50 253 5) 32 0 32))) (F26 p0 (part1 (F50 252 2) 32 0 32))) (sel (!(F29 (F20 (F26 p0 (part1 (F50 252 2) 32 0 32)) (F26 p0 (part1 (F50 252 2) 32 0 32))) p0)) (F20 (F26 p0 (part1 (F50 252 2) 32 0 32)) (F26 (F30 2) (part1 (F50 253 5) 32 0 32))) (F26 p0 (part1 (F50 252 2) 32 0 32)))) p0)
noncomputable def S34:List AV→Option (Prop × Ret)
 | [.ints .u64 5 p0] => some (True,⟨.tup [.ints .u64 5 (F34 p0),.sc (.b (F34_1 p0))],[]⟩)
 | _ => none
noncomputable def B34:Bs:={ P:=Go.Proofs.Tryd.prog,G:=gD,tab:=tabOf [(35,⟨[.val],0,S30⟩),(51,⟨[.val,.val],0,S20⟩),(63,⟨[.val,.val],0,S29⟩),(72,⟨[.val,.ro .u8],0,S26⟩),(73,⟨[.val,.val],1,S50⟩)],n:=25 }
theorem B34.ok:B34.Ok:=⟨tabOk (P:=Go.Proofs.Tryd.prog) (G:=gD) (l:=[(35,⟨[.val],0,S30⟩),(51,⟨[.val,.val],0,S20⟩),(63,⟨[.val,.val],0,S29⟩),(72,⟨[.val,.ro .u8],0,S26⟩),(73,⟨[.val,.val],1,S50⟩)]) (And.intro K30 (And.intro K20 (And.intro K29 (And.intro K26 (And.intro K50 True.intro))))),mixed⟩
theorem K34:Known Go.Proofs.Tryd.prog gD 62 ⟨[.val],0,S34⟩:=by
 refine Known.walk (B:=B34) (fn:=Go.Proofs.Tryd.f62) B34.ok (by kernel_rfl) rfl (by kernel_rfl) (by kernel_rfl) (by decide) ?_ ?_
 ·intro vs C r h
  simp only at h
  unfold S34 at h
  split at h
  ·cases h; rfl
  ·cases h
 ·intro E args C r h hC hlen
  simp only at h
  unfold S34 at h
  split at h
  rotate_left
  ·cases h
  rename_i p0
  cases h
  simp only [lens] at hlen
  refine ⟨show 1≤25 from by decide,?_⟩
  refine Tri.sub (Sub.of_eq (show _=([(0,.ints .u64 5 p0)],[]) from rfl)) ?_
  refine sr [] none [2,1] [16,0] (TT∧(TT∧(TT∧True)))
    ([(2,qp 16 0),(1,qp 0 0)],[(16,.ints .u64 5 [0,0,0,0,0]),(0,.ints .u64 5 p0)])
    48 (⟨tt,⟨tt,⟨tt,trivial⟩⟩⟩) ?_
  refine sr [] (some [0,0,3,0,15]) [4,2,1] [96,16,0] (TT∧(((True∧((248:Int)≤252∧252≤(255:Int)))∧True)∧(((((0 + 32≤32)∧True)∧((part1 (F50 252 2) 32 0 32).length≤1000000))∧True)∧(TT∧(((True∧(5=5))∧True)∧True)))))
    ([(4,qp 96 0),(2,qp 16 0),(1,qp 0 0)],[(96,.ints .u64 5 (F26 p0 (part1 (F50 252 2) 32 0 32))),(16,.ints .u64 5 [0,0,0,0,0]),(0,.ints .u64 5 p0)])
    128 (⟨tt,⟨⟨⟨trivial,(by omega)⟩,trivial⟩,⟨⟨⟨⟨(by omega),trivial⟩,(by rw [part1_all (len50 _ _),len50]; decide)⟩,trivial⟩,⟨tt,⟨⟨⟨trivial,(rfl)⟩,trivial⟩,trivial⟩⟩⟩⟩⟩) ?_
  refine Tri.seq ?_
  refine sr [] (some [0,0,3,0,15,31]) [13,4,2,1] [96,16,0] (TT∧(TT∧((TT∧True)∧(TT∧((TT∧True)∧(TT∧True))))))
    ([(13,.sc (.b (!(F29 (F20 (F26 p0 (part1 (F50 252 2) 32 0 32)) (F26 p0 (part1 (F50 252 2) 32 0 32))) p0)))),(4,qp 96 0),(2,qp 16 0),(1,qp 0 0)],[(96,.ints .u64 5 (F26 p0 (part1 (F50 252 2) 32 0 32))),(16,.ints .u64 5 [0,0,0,0,0]),(0,.ints .u64 5 p0)])
    224 (⟨tt,⟨tt,⟨⟨tt,trivial⟩,⟨tt,⟨⟨tt,trivial⟩,⟨tt,trivial⟩⟩⟩⟩⟩⟩) ?_
  refine Tri.join (x:=(!(F29 (F20 (F26 p0 (part1 (F50 252 2) 32 0 32)) (F26 p0 (part1 (F50 252 2) 32 0 32))) p0))) (fun bb => ([(4,qp 96 0),(2,qp 16 0),(1,qp 0 0)],[(96,.ints .u64 5 (sel bb (F20 (F26 p0 (part1 (F50 252 2) 32 0 32)) (F26 (F30 2) (part1 (F50 253 5) 32 0 32))) (F26 p0 (part1 (F50 252 2) 32 0 32)))),(16,.ints .u64 5 [0,0,0,0,0]),(0,.ints .u64 5 p0)])) 320 (by kernel_rfl) (fun h1 => ?_) (fun h1 => ?_) ?_
  ·
   refine rr [] (some [0,0,2,6,15,31]) [4,2,1] [96,16,0] (TT∧((TT∧True)∧(((True∧((248:Int)≤253∧253≤(255:Int)))∧True)∧(((((0 + 32≤32)∧True)∧((part1 (F50 253 5) 32 0 32).length≤1000000))∧True)∧((TT∧True)∧(((True∧(5=5))∧True)∧True))))))
     ([(4,qp 96 0),(2,qp 16 0),(1,qp 0 0)],[(96,.ints .u64 5 (F20 (F26 p0 (part1 (F50 252 2) 32 0 32)) (F26 (F30 2) (part1 (F50 253 5) 32 0 32)))),(16,.ints .u64 5 [0,0,0,0,0]),(0,.ints .u64 5 p0)])
     320 (⟨tt,⟨⟨tt,trivial⟩,⟨⟨⟨trivial,(by omega)⟩,trivial⟩,⟨⟨⟨⟨(by omega),trivial⟩,(by rw [part1_all (len50 _ _),len50]; decide)⟩,trivial⟩,⟨⟨tt,trivial⟩,⟨⟨⟨trivial,(rfl)⟩,trivial⟩,trivial⟩⟩⟩⟩⟩⟩) ?_
   exact (Sub.ren (ns:=[(96,96),(16,16),(0,0)]) (kf:=[4,2,1]) (s':=([(4,qp 96 0),(2,qp 16 0),(1,qp 0 0)],[(96,.ints .u64 5 (F20 (F26 p0 (part1 (F50 252 2) 32 0 32)) (F26 (F30 2) (part1 (F50 253 5) 32 0 32)))),(16,.ints .u64 5 [0,0,0,0,0]),(0,.ints .u64 5 p0)])) (by kernel_rfl) (by kernel_rfl)).trans (Sub.of_eq (by simp only [sel_true,sel_false]))
  ·
   refine Tri.skip ?_
   exact (Sub.ren (ns:=[(96,96),(16,16),(0,0)]) (kf:=[4,2,1]) (s':=([(4,qp 96 0),(2,qp 16 0),(1,qp 0 0)],[(96,.ints .u64 5 (F26 p0 (part1 (F50 252 2) 32 0 32))),(16,.ints .u64 5 [0,0,0,0,0]),(0,.ints .u64 5 p0)])) (by kernel_rfl) (by kernel_rfl)).trans (Sub.of_eq (by simp only [sel_true,sel_false]))
  ·
   change Tri _ _ _ _ _ _
   refine sr [] (some [0,0,0,6,0,30,63,127]) [3,2] [16] (TT∧(TT∧(TT∧((TT∧True)∧(TT∧((TT∧True)∧(((True∧(5=5))∧True)∧(TT∧True))))))))
     ([(3,.sc (.b (F29 (F20 (sel (!(F29 (F20 (F26 p0 (part1 (F50 252 2) 32 0 32)) (F26 p0 (part1 (F50 252 2) 32 0 32))) p0)) (F20 (F26 p0 (part1 (F50 252 2) 32 0 32)) (F26 (F30 2) (part1 (F50 253 5) 32 0 32))) (F26 p0 (part1 (F50 252 2) 32 0 32))) (sel (!(F29 (F20 (F26 p0 (part1 (F50 252 2) 32 0 32)) (F26 p0 (part1 (F50 252 2) 32 0 32))) p0)) (F20 (F26 p0 (part1 (F50 252 2) 32 0 32)) (F26 (F30 2) (part1 (F50 253 5) 32 0 32))) (F26 p0 (part1 (F50 252 2) 32 0 32)))) p0))),(2,qp 16 0)],[(16,.ints .u64 5 (sel (!(F29 (F20 (F26 p0 (part1 (F50 252 2) 32 0 32)) (F26 p0 (part1 (F50 252 2) 32 0 32))) p0)) (F20 (F26 p0 (part1 (F50 252 2) 32 0 32)) (F26 (F30 2) (part1 (F50 253 5) 32 0 32))) (F26 p0 (part1 (F50 252 2) 32 0 32))))])
     448 (⟨tt,⟨tt,⟨tt,⟨⟨tt,trivial⟩,⟨tt,⟨⟨tt,trivial⟩,⟨⟨⟨trivial,(rfl)⟩,trivial⟩,⟨tt,trivial⟩⟩⟩⟩⟩⟩⟩⟩) ?_
   refine Tri.ret ?_
   exact endP.ret [] (True∧TT) (by kernel_rfl) (by kernel_rfl) (by kernel_rfl) ⟨trivial,tt⟩
noncomputable def F23l0 (p0:List Int) (k0:Nat) (z0:List Int):List Int :=
 z0.set (k0 / 51) (iOr .u64 (z0.getD (k0 / 51) 0) (iShl .u64 (IntKind.wrap .u64 (iAnd .u8 (iShr .u8 (p0.getD (k0 / 8) 0) ((k0 % 8:Nat):Int)) 1)) ((k0 % 51:Nat):Int)))
noncomputable def F23 (p0:List Int):List Int :=
 (sel (((p0.length:Int):Int) != 32) [0,0,0,0,0] (itr (F23l0 p0) 255 [0,0,0,0,0]))
noncomputable def F23_1 (p0:List Int):Bool :=
 (sel (((p0.length:Int):Int) != 32) false true)
noncomputable def S23:List AV→Option (Prop × Ret)
 | [.sc (.ro .u8 p0)] => some (True,⟨.tup [.ints .u64 5 (F23 p0),.sc (.b (F23_1 p0))],[]⟩)
 | _ => none
noncomputable def B23:Bs:={ P:=Go.Proofs.Tryd.prog,G:=gD,tab:=tabOf [],n:=36 }
theorem B23.ok:B23.Ok:=⟨tabOk (P:=Go.Proofs.Tryd.prog) (G:=gD) (l:=[]) True.intro,mixed⟩
theorem K23:Known Go.Proofs.Tryd.prog gD 61 ⟨[.ro .u8],0,S23⟩:=by
 refine Known.walk (B:=B23) (fn:=Go.Proofs.Tryd.f61) B23.ok (by kernel_rfl) rfl (by kernel_rfl) (by kernel_rfl) (by decide) ?_ ?_
 ·intro vs C r h
  simp only at h
  unfold S23 at h
  split at h
  ·cases h; rfl
  ·cases h
 ·intro E args C r h hC hlen
  simp only at h
  unfold S23 at h
  split at h
  rotate_left
  ·cases h
  rename_i p0
  cases h
  simp only [lens] at hlen
  refine ⟨show 1≤36 from by decide,?_⟩
  refine Tri.sub (Sub.of_eq (show _=([(0,qr p0)],[]) from rfl)) ?_
  refine sr [] none [2,0] [0] (TT∧(TT∧True))
    ([(2,qp 0 0),(0,qr p0)],[(0,.ints .u64 5 [0,0,0,0,0])])
    32 (⟨tt,⟨tt,trivial⟩⟩) ?_
  refine sr [] none [4,2,0] [32,0] (TT∧True)
    ([(4,qp 32 0),(2,qp 0 0),(0,qr p0)],[(32,.ints .u64 5 [0,0,0,0,0]),(0,.ints .u64 5 [0,0,0,0,0])])
    48 (⟨tt,trivial⟩) ?_
  refine Tri.seq ?_
  refine sr [] none [8,4,2,0] [32,0] (TT∧(TT∧(TT∧True)))
    ([(8,.sc (.b (((p0.length:Int):Int) != 32))),(4,qp 32 0),(2,qp 0 0),(0,qr p0)],[(32,.ints .u64 5 [0,0,0,0,0]),(0,.ints .u64 5 [0,0,0,0,0])])
    96 (⟨tt,⟨tt,⟨tt,trivial⟩⟩⟩) ?_
  refine Tri.cond (x:=(((p0.length:Int):Int) != 32)) (by kernel_rfl) (fun h1 => ?_) (fun h1 => ?_)
  ·
   have h1':=ne_true_i h1
   refine sr [] none [3,2] [0] (TT∧(((True∧(5=5))∧True)∧(TT∧True)))
     ([(3,.sc (.b false)),(2,qp 0 0)],[(0,.ints .u64 5 [0,0,0,0,0])])
     144 (⟨tt,⟨⟨⟨trivial,(rfl)⟩,trivial⟩,⟨tt,trivial⟩⟩⟩) ?_
   refine Tri.ret ?_
   repeat (first | refine thenP_ret ?_ | refine blkP_ret ?_ | refine countP_ret ?_ | refine joinP_ret ?_)
   refine endP.conv (r':=⟨.tup [.ints .u64 5 [0,0,0,0,0],.sc (.b false)],[]⟩) (by simp only [F23,F23_1,h1,sel_true,sel_false]) ?_
   exact endP.ret [] (True∧TT) (by kernel_rfl) (by kernel_rfl) (by kernel_rfl) ⟨trivial,tt⟩
  ·
   have h1':=ne_false_i h1
   refine Tri.skip ?_
   change Tri _ _ _ _ _ _
   refine Tri.seq ?_
   refine sr [] none [10,4,2,0] [32,0] (TT∧True)
     ([(10,qi 0),(4,qp 32 0),(2,qp 0 0),(0,qr p0)],[(32,.ints .u64 5 [0,0,0,0,0]),(0,.ints .u64 5 [0,0,0,0,0])])
     112 (⟨tt,trivial⟩) ?_
   refine Tri.block ?_
   refine Tri.count 112 255 (F23l0 p0) [0,0,0,0,0] (fun k0 z0 => True) (fun k0 z0 => ([(10,qi (k0:Int)),(4,qp 32 0),(2,qp 0 0),(0,qr p0)],[(32,.ints .u64 5 z0),(0,.ints .u64 5 [0,0,0,0,0])])) trivial (Sub.of_eq (by kernel_rfl)) ?_
   intro k0 z0 hk0 hz0 hJ0
   refine sr [] none [11,10,4,2,0] [32,0] (TT∧True)
     ([(11,.sc (.b (decide (((k0:Int):Int) < 255)))),(10,qi (k0:Int)),(4,qp 32 0),(2,qp 0 0),(0,qr p0)],[(32,.ints .u64 5 z0),(0,.ints .u64 5 [0,0,0,0,0])])
     128 (⟨tt,trivial⟩) ?_
   refine Tri.seq ?_
   refine Tri.cond (x:=(decide (((k0:Int):Int) < 255))) (by kernel_rfl) (fun h2 => ?_) (fun h2 => ?_)
   ·
    have h2':=of_decide_eq_true h2
    refine Tri.skip ?_
    change Tri _ _ _ _ _ _
    refine Tri.seq ?_
    refine Tri.block ?_
    refine sr [] none [5,10,4,2,0] [32,0] (TT∧(TT∧True))
      ([(5,qi (k0:Int)),(10,qi (k0:Int)),(4,qp 32 0),(2,qp 0 0),(0,qr p0)],[(32,.ints .u64 5 z0),(0,.ints .u64 5 [0,0,0,0,0])])
      160 (⟨tt,⟨tt,trivial⟩⟩) ?_
    refine rr [(14,.i .i64 ((k0 / 51:Nat):Int)),(20,.i .i64 ((k0 / 8:Nat):Int)),(24,.i .i64 ((k0 % 8:Nat):Int)),(29,.i .i64 ((k0 % 51:Nat):Int))] (some [0,1,0,7,15,0,0,64,224,480,0,1024,4064,8160,16352,0,32768,131040,262143,0,1048575,2097151]) [10,4,2,0] [32,0] (TT∧(((51 ≠ (0:Int))∧((iQuo .i64 (k0:Int) 51)=((k0 / 51:Nat):Int)))∧(TT∧((((0:Int)≤((k0 / 51:Nat):Int)∧((k0 / 51:Nat):Int) < ((5:Nat):Int))∧True)∧(((k0 / 51 < 5)∧True)∧(TT∧(TT∧(((8 ≠ (0:Int))∧((iQuo .i64 (k0:Int) 8)=((k0 / 8:Nat):Int)))∧((((0:Int)≤((k0 / 8:Nat):Int)∧((k0 / 8:Nat):Int) < (p0.length:Int))∧True)∧(((k0 / 8 < p0.length)∧True)∧(TT∧(((8 ≠ (0:Int))∧((iRem (k0:Int) 8)=((k0 % 8:Nat):Int)))∧((((0:Int)≤((k0 % 8:Nat):Int))∧True)∧(TT∧(TT∧(TT∧(((51 ≠ (0:Int))∧((iRem (k0:Int) 51)=((k0 % 51:Nat):Int)))∧((((0:Int)≤((k0 % 51:Nat):Int))∧True)∧(TT∧(TT∧((((0:Int)≤((k0 / 51:Nat):Int)∧((k0 / 51:Nat):Int) < ((5:Nat):Int))∧True)∧((((k0 / 51 < 5)∧(1=1))∧True)∧True))))))))))))))))))))))
      ([(10,qi (k0:Int)),(4,qp 32 0),(2,qp 0 0),(0,qr p0)],[(32,.ints .u64 5 (z0.set (k0 / 51) (iOr .u64 (z0.getD (k0 / 51) 0) (iShl .u64 (IntKind.wrap .u64 (iAnd .u8 (iShr .u8 (p0.getD (k0 / 8) 0) ((k0 % 8:Nat):Int)) 1)) ((k0 % 51:Nat):Int))))),(0,.ints .u64 5 [0,0,0,0,0])])
      512 (⟨tt,⟨⟨(by omega),(iQuo_nat (a:=k0) (b:=51) (by omega))⟩,⟨tt,⟨⟨(by omega),trivial⟩,⟨⟨(by omega),trivial⟩,⟨tt,⟨tt,⟨⟨(by omega),(iQuo_nat (a:=k0) (b:=8) (by omega))⟩,⟨⟨(by omega),trivial⟩,⟨⟨(by omega),trivial⟩,⟨tt,⟨⟨(by omega),(iRem_nat (a:=k0) (b:=8))⟩,⟨⟨(by omega),trivial⟩,⟨tt,⟨tt,⟨tt,⟨⟨(by omega),(iRem_nat (a:=k0) (b:=51))⟩,⟨⟨(by omega),trivial⟩,⟨tt,⟨tt,⟨⟨(by omega),trivial⟩,⟨⟨⟨(by omega),(rfl)⟩,trivial⟩,trivial⟩⟩⟩⟩⟩⟩⟩⟩⟩⟩⟩⟩⟩⟩⟩⟩⟩⟩⟩⟩⟩⟩) ?_
    change Tri _ _ _ _ _ _
    refine rr [(34,.i .i64 ((k0 + 1:Nat):Int))] none [10,4,2,0] [32,0] ((True∧((iAdd .i64 (k0:Int) 1)=((k0 + 1:Nat):Int)))∧(TT∧True))
      ([(10,qi ((k0 + 1:Nat):Int)),(4,qp 32 0),(2,qp 0 0),(0,qr p0)],[(32,.ints .u64 5 (z0.set (k0 / 51) (iOr .u64 (z0.getD (k0 / 51) 0) (iShl .u64 (IntKind.wrap .u64 (iAnd .u8 (iShr .u8 (p0.getD (k0 / 8) 0) ((k0 % 8:Nat):Int)) 1)) ((k0 % 51:Nat):Int))))),(0,.ints .u64 5 [0,0,0,0,0])])
      544 (⟨⟨trivial,(iAdd_nat (a:=k0) (b:=1) (by omega))⟩,⟨tt,trivial⟩⟩) ?_
    refine countP_normal (by omega) trivial ?_
    exact Sub.ren (ns:=[(32,32),(0,0)]) (kf:=[10,4,2,0]) (by kernel_rfl) (by kernel_rfl)
   ·
    have h2':=of_decide_eq_false h2
    refine Tri.exit ?_
    have hend0:k0=255:=by (have:=of_decide_eq_false h2; omega)
    subst hend0; subst hz0
    change Tri _ _ _ _ _ _
    refine sr [] none [3,2] [0] (TT∧(((True∧(5=5))∧True)∧(TT∧True)))
      ([(3,.sc (.b true)),(2,qp 0 0)],[(0,.ints .u64 5 (itr (F23l0 p0) 255 [0,0,0,0,0]))])
      176 (⟨tt,⟨⟨⟨trivial,(rfl)⟩,trivial⟩,⟨tt,trivial⟩⟩⟩) ?_
    refine Tri.ret ?_
    repeat (first | refine thenP_ret ?_ | refine blkP_ret ?_ | refine countP_ret ?_ | refine joinP_ret ?_)
    refine endP.conv (r':=⟨.tup [.ints .u64 5 (itr (F23l0 p0) 255 [0,0,0,0,0]),.sc (.b true)],[]⟩) (by simp only [F23,F23_1,h1,sel_true,sel_false]) ?_
    exact endP.ret [] (True∧TT) (by kernel_rfl) (by kernel_rfl) (by kernel_rfl) ⟨trivial,tt⟩
theorem len23 {p0:List Int} (h:F23_1 p0=true):p0.length=32:=by
 unfold F23_1 at h
 cases hb:(((p0.length:Int):Int) != 32)
 ·have:=ne_false_i hb
  omega
 ·rw [hb,sel_true] at h
  cases h
theorem len23' {p0:List Int} (h:(!(F23_1 p0))=false):p0.length=32:=len23 (by simpa using h)
end Go.Vm
set_option linter.unusedVariables false
set_option linter.unusedSimpArgs false
set_option maxRecDepth 4000
namespace Go.Vm
open Go
noncomputable def F46l1 (k1:Nat) (z1:Int × List Int):Int × List Int :=
 ((iShr .i64 (iAdd .i64 (z1.2.getD k1 0) z1.1) 16),z1.2.set k1 (iSub .i64 (iAdd .i64 (z1.2.getD k1 0) z1.1) (iShl .i64 (iShr .i64 (iAdd .i64 (z1.2.getD k1 0) z1.1) 16) 16)))
noncomputable def F46l0 (k0:Nat) (z0:List Int):List Int :=
 (((itr (F46l1) 16 (0,z0)).2).set 15 (iSub .i64 (((itr (F46l1) 16 (0,z0)).2).getD 15 0) (iShl .i64 (iShr .i64 (((itr (F46l1) 16 (0,z0)).2).getD 15 0) 15) 15))).set 0 (iAdd .i64 ((((itr (F46l1) 16 (0,z0)).2).set 15 (iSub .i64 (((itr (F46l1) 16 (0,z0)).2).getD 15 0) (iShl .i64 (iShr .i64 (((itr (F46l1) 16 (0,z0)).2).getD 15 0) 15) 15))).getD 0 0) (iAdd .i64 (iMul .i64 19 (iShr .i64 (((itr (F46l1) 16 (0,z0)).2).getD 15 0) 15)) (iMul .i64 38 ((itr (F46l1) 16 (0,z0)).1))))
noncomputable def F46l2 (k2:Nat) (z2:Int × List Int):Int × List Int :=
 ((iShr .i64 (iAdd .i64 (z2.2.getD k2 0) z2.1) 16),z2.2.set k2 (iSub .i64 (iAdd .i64 (z2.2.getD k2 0) z2.1) (iShl .i64 (iShr .i64 (iAdd .i64 (z2.2.getD k2 0) z2.1) 16) 16)))
noncomputable def F46 (p0:List Int):List Int :=
 (sel (decide ((((itr (F46l2) 16 (0,(itr (F46l0) 4 p0).set 0 (iAdd .i64 ((itr (F46l0) 4 p0).getD 0 0) 19))).2).getD 15 0:Int) ≥ 32768)) (((itr (F46l2) 16 (0,(itr (F46l0) 4 p0).set 0 (iAdd .i64 ((itr (F46l0) 4 p0).getD 0 0) 19))).2).set 15 (iSub .i64 (((itr (F46l2) 16 (0,(itr (F46l0) 4 p0).set 0 (iAdd .i64 ((itr (F46l0) 4 p0).getD 0 0) 19))).2).getD 15 0) 32768)) (itr (F46l0) 4 p0))
noncomputable def S46:List AV→Option (Prop × Ret)
 | [.ints .i64 16 p0] => some (True,⟨.ints .i64 16 (F46 p0),[]⟩)
 | _ => none
noncomputable def B46:Bs:={ P:=Go.Proofs.Tryd.prog,G:=gD,tab:=tabOf [],n:=82 }
theorem B46.ok:B46.Ok:=⟨tabOk (P:=Go.Proofs.Tryd.prog) (G:=gD) (l:=[]) True.intro,mixed⟩
theorem K46:Known Go.Proofs.Tryd.prog gD 79 ⟨[.val],0,S46⟩:=by
 refine Known.walk (B:=B46) (fn:=Go.Proofs.Tryd.f79) B46.ok (by kernel_rfl) rfl (by kernel_rfl) (by kernel_rfl) (by decide) ?_ ?_
 ·intro vs C r h
  simp only at h
  unfold S46 at h
  split at h
  ·cases h; rfl
  ·cases h
 ·intro E args C r h hC hlen
  simp only at h
  unfold S46 at h
  split at h
  rotate_left
  ·cases h
  rename_i p0
  cases h
  simp only [lens] at hlen
  refine ⟨show 1≤82 from by decide,?_⟩
  refine Tri.sub (Sub.of_eq (show _=([(0,.ints .i64 16 p0)],[]) from rfl)) ?_
  refine sr [] none [2,1] [16,0] (TT∧(TT∧True))
    ([(2,qp 16 0),(1,qp 0 0)],[(16,.ints .i64 16 [0,0,0,0,0,0,0,0,0,0,0,0,0,0,0,0]),(0,.ints .i64 16 p0)])
    32 (⟨tt,⟨tt,trivial⟩⟩) ?_
  refine Tri.seq ?_
  refine sr [] none [3,2,1] [16,0] (TT∧True)
    ([(3,qi 0),(2,qp 16 0),(1,qp 0 0)],[(16,.ints .i64 16 [0,0,0,0,0,0,0,0,0,0,0,0,0,0,0,0]),(0,.ints .i64 16 p0)])
    48 (⟨tt,trivial⟩) ?_
  refine Tri.block ?_
  refine Tri.count 48 4 (F46l0) p0 (fun k0 z0 => True) (fun k0 z0 => ([(3,qi (k0:Int)),(2,qp 16 0),(1,qp 0 0)],[(16,.ints .i64 16 [0,0,0,0,0,0,0,0,0,0,0,0,0,0,0,0]),(0,.ints .i64 16 z0)])) trivial (Sub.of_eq (by kernel_rfl)) ?_
  intro k0 z0 hk0 hz0 hJ0
  refine Tri.seq ?_
  refine sr [] none [13,3,2,1] [16,0] (TT∧(TT∧True))
    ([(13,.sc (.b (decide (((k0:Int):Int) < 4)))),(3,qi (k0:Int)),(2,qp 16 0),(1,qp 0 0)],[(16,.ints .i64 16 [0,0,0,0,0,0,0,0,0,0,0,0,0,0,0,0]),(0,.ints .i64 16 z0)])
    80 (⟨tt,⟨tt,trivial⟩⟩) ?_
  refine Tri.cond (x:=(decide (((k0:Int):Int) < 4))) (by kernel_rfl) (fun h1 => ?_) (fun h1 => ?_)
  ·
   have h1':=of_decide_eq_true h1
   refine Tri.skip ?_
   change Tri _ _ _ _ _ _
   refine Tri.seq ?_
   refine Tri.block ?_
   refine sr [] none [4,3,2,1] [16,0] (TT∧True)
     ([(4,qi 0),(3,qi (k0:Int)),(2,qp 16 0),(1,qp 0 0)],[(16,.ints .i64 16 [0,0,0,0,0,0,0,0,0,0,0,0,0,0,0,0]),(0,.ints .i64 16 z0)])
     96 (⟨tt,trivial⟩) ?_
   refine Tri.seq ?_
   refine sr [] none [5,4,3,2,1] [16,0] (TT∧True)
     ([(5,qi 0),(4,qi 0),(3,qi (k0:Int)),(2,qp 16 0),(1,qp 0 0)],[(16,.ints .i64 16 [0,0,0,0,0,0,0,0,0,0,0,0,0,0,0,0]),(0,.ints .i64 16 z0)])
     112 (⟨tt,trivial⟩) ?_
   refine Tri.block ?_
   refine Tri.count 112 16 (F46l1) (0,z0) (fun k1 z1 => True) (fun k1 z1 => ([(5,qi (k1:Int)),(4,qi z1.1),(3,qi (k0:Int)),(2,qp 16 0),(1,qp 0 0)],[(16,.ints .i64 16 [0,0,0,0,0,0,0,0,0,0,0,0,0,0,0,0]),(0,.ints .i64 16 z1.2)])) trivial (Sub.of_eq (by kernel_rfl)) ?_
   intro k1 z1 hk1 hz1 hJ1
   refine Tri.seq ?_
   refine sr [] none [17,5,4,3,2,1] [16,0] (TT∧(TT∧True))
     ([(17,.sc (.b (decide (((k1:Int):Int) < 16)))),(5,qi (k1:Int)),(4,qi z1.1),(3,qi (k0:Int)),(2,qp 16 0),(1,qp 0 0)],[(16,.ints .i64 16 [0,0,0,0,0,0,0,0,0,0,0,0,0,0,0,0]),(0,.ints .i64 16 z1.2)])
     144 (⟨tt,⟨tt,trivial⟩⟩) ?_
   refine Tri.cond (x:=(decide (((k1:Int):Int) < 16))) (by kernel_rfl) (fun h2 => ?_) (fun h2 => ?_)
   ·
    have h2':=of_decide_eq_true h2
    refine Tri.skip ?_
    change Tri _ _ _ _ _ _
    refine Tri.seq ?_
    refine Tri.block ?_
    refine sr [] none [6,5,3,2,1] [16,0] (TT∧((((0:Int)≤(k1:Int)∧(k1:Int) < ((16:Nat):Int))∧True)∧(((k1 < 16)∧True)∧(TT∧(TT∧(TT∧True))))))
      ([(6,qi (iAdd .i64 (z1.2.getD k1 0) z1.1)),(5,qi (k1:Int)),(3,qi (k0:Int)),(2,qp 16 0),(1,qp 0 0)],[(16,.ints .i64 16 [0,0,0,0,0,0,0,0,0,0,0,0,0,0,0,0]),(0,.ints .i64 16 z1.2)])
      240 (⟨tt,⟨⟨(by omega),trivial⟩,⟨⟨(by omega),trivial⟩,⟨tt,⟨tt,⟨tt,trivial⟩⟩⟩⟩⟩⟩) ?_
    refine sr [] none [4,6,5,3,2,1] [16,0] (TT∧((((0:Int)≤16)∧True)∧(TT∧True)))
      ([(4,qi (iShr .i64 (iAdd .i64 (z1.2.getD k1 0) z1.1) 16)),(6,qi (iAdd .i64 (z1.2.getD k1 0) z1.1)),(5,qi (k1:Int)),(3,qi (k0:Int)),(2,qp 16 0),(1,qp 0 0)],[(16,.ints .i64 16 [0,0,0,0,0,0,0,0,0,0,0,0,0,0,0,0]),(0,.ints .i64 16 z1.2)])
      288 (⟨tt,⟨⟨(by omega),trivial⟩,⟨tt,trivial⟩⟩⟩) ?_
    refine rr [] none [4,5,3,2,1] [0,16] (TT∧(TT∧(TT∧((((0:Int)≤16)∧True)∧(TT∧((((0:Int)≤(k1:Int)∧(k1:Int) < ((16:Nat):Int))∧True)∧((((k1 < 16)∧(1=1))∧True)∧True)))))))
      ([(4,qi (iShr .i64 (iAdd .i64 (z1.2.getD k1 0) z1.1) 16)),(5,qi (k1:Int)),(3,qi (k0:Int)),(2,qp 16 0),(1,qp 0 0)],[(0,.ints .i64 16 (z1.2.set k1 (iSub .i64 (iAdd .i64 (z1.2.getD k1 0) z1.1) (iShl .i64 (iShr .i64 (iAdd .i64 (z1.2.getD k1 0) z1.1) 16) 16)))),(16,.ints .i64 16 [0,0,0,0,0,0,0,0,0,0,0,0,0,0,0,0])])
      400 (⟨tt,⟨tt,⟨tt,⟨⟨(by omega),trivial⟩,⟨tt,⟨⟨(by omega),trivial⟩,⟨⟨⟨(by omega),(rfl)⟩,trivial⟩,trivial⟩⟩⟩⟩⟩⟩⟩) ?_
    change Tri _ _ _ _ _ _
    refine rr [(19,.i .i64 ((k1 + 1:Nat):Int))] none [5,4,3,2,1] [0,16] (TT∧((True∧((iAdd .i64 (k1:Int) 1)=((k1 + 1:Nat):Int)))∧(TT∧True)))
      ([(5,qi ((k1 + 1:Nat):Int)),(4,qi (iShr .i64 (iAdd .i64 (z1.2.getD k1 0) z1.1) 16)),(3,qi (k0:Int)),(2,qp 16 0),(1,qp 0 0)],[(0,.ints .i64 16 (z1.2.set k1 (iSub .i64 (iAdd .i64 (z1.2.getD k1 0) z1.1) (iShl .i64 (iShr .i64 (iAdd .i64 (z1.2.getD k1 0) z1.1) 16) 16)))),(16,.ints .i64 16 [0,0,0,0,0,0,0,0,0,0,0,0,0,0,0,0])])
      448 (⟨tt,⟨⟨trivial,(iAdd_nat (a:=k1) (b:=1) (by omega))⟩,⟨tt,trivial⟩⟩⟩) ?_
    refine countP_normal (by omega) trivial ?_
    exact Sub.ren (ns:=[(16,16),(0,0)]) (kf:=[5,4,3,2,1]) (by kernel_rfl) (by kernel_rfl)
   ·
    have h2':=of_decide_eq_false h2
    refine Tri.exit ?_
    have hend1:k1=16:=by (have:=of_decide_eq_false h2; omega)
    subst hend1; subst hz1
    change Tri _ _ _ _ _ _
    refine sr [] none [7,4,3,2,1] [16,0] ((((0:Int)≤15∧15 < ((16:Nat):Int))∧True)∧(((15 < 16)∧True)∧((((0:Int)≤15)∧True)∧(TT∧True))))
      ([(7,qi (iShr .i64 (((itr (F46l1) 16 (0,z0)).2).getD 15 0) 15)),(4,qi ((itr (F46l1) 16 (0,z0)).1)),(3,qi (k0:Int)),(2,qp 16 0),(1,qp 0 0)],[(16,.ints .i64 16 [0,0,0,0,0,0,0,0,0,0,0,0,0,0,0,0]),(0,.ints .i64 16 ((itr (F46l1) 16 (0,z0)).2))])
      208 (⟨⟨(by omega),trivial⟩,⟨⟨(by omega),trivial⟩,⟨⟨(by omega),trivial⟩,⟨tt,trivial⟩⟩⟩⟩) ?_
    refine sr [] none [7,4,3,2,1] [0,16] ((((0:Int)≤15∧15 < ((16:Nat):Int))∧True)∧(((15 < 16)∧True)∧(TT∧((((0:Int)≤15)∧True)∧(TT∧((((0:Int)≤15∧15 < ((16:Nat):Int))∧True)∧((((15 < 16)∧(1=1))∧True)∧True)))))))
      ([(7,qi (iShr .i64 (((itr (F46l1) 16 (0,z0)).2).getD 15 0) 15)),(4,qi ((itr (F46l1) 16 (0,z0)).1)),(3,qi (k0:Int)),(2,qp 16 0),(1,qp 0 0)],[(0,.ints .i64 16 (((itr (F46l1) 16 (0,z0)).2).set 15 (iSub .i64 (((itr (F46l1) 16 (0,z0)).2).getD 15 0) (iShl .i64 (iShr .i64 (((itr (F46l1) 16 (0,z0)).2).getD 15 0) 15) 15)))),(16,.ints .i64 16 [0,0,0,0,0,0,0,0,0,0,0,0,0,0,0,0])])
      320 (⟨⟨(by omega),trivial⟩,⟨⟨(by omega),trivial⟩,⟨tt,⟨⟨(by omega),trivial⟩,⟨tt,⟨⟨(by omega),trivial⟩,⟨⟨⟨(by omega),(rfl)⟩,trivial⟩,trivial⟩⟩⟩⟩⟩⟩⟩) ?_
    refine rr [] none [3,2,1] [0,16] ((((0:Int)≤0∧0 < ((16:Nat):Int))∧True)∧(((0 < 16)∧True)∧(TT∧(TT∧(TT∧(TT∧(TT∧(TT∧((((0:Int)≤0∧0 < ((16:Nat):Int))∧True)∧((((0 < 16)∧(1=1))∧True)∧True))))))))))
      ([(3,qi (k0:Int)),(2,qp 16 0),(1,qp 0 0)],[(0,.ints .i64 16 ((((itr (F46l1) 16 (0,z0)).2).set 15 (iSub .i64 (((itr (F46l1) 16 (0,z0)).2).getD 15 0) (iShl .i64 (iShr .i64 (((itr (F46l1) 16 (0,z0)).2).getD 15 0) 15) 15))).set 0 (iAdd .i64 ((((itr (F46l1) 16 (0,z0)).2).set 15 (iSub .i64 (((itr (F46l1) 16 (0,z0)).2).getD 15 0) (iShl .i64 (iShr .i64 (((itr (F46l1) 16 (0,z0)).2).getD 15 0) 15) 15))).getD 0 0) (iAdd .i64 (iMul .i64 19 (iShr .i64 (((itr (F46l1) 16 (0,z0)).2).getD 15 0) 15)) (iMul .i64 38 ((itr (F46l1) 16 (0,z0)).1)))))),(16,.ints .i64 16 [0,0,0,0,0,0,0,0,0,0,0,0,0,0,0,0])])
      480 (⟨⟨(by omega),trivial⟩,⟨⟨(by omega),trivial⟩,⟨tt,⟨tt,⟨tt,⟨tt,⟨tt,⟨tt,⟨⟨(by omega),trivial⟩,⟨⟨⟨(by omega),(rfl)⟩,trivial⟩,trivial⟩⟩⟩⟩⟩⟩⟩⟩⟩⟩) ?_
    change Tri _ _ _ _ _ _
    refine rr [(15,.i .i64 ((k0 + 1:Nat):Int))] none [3,2,1] [0,16] (TT∧((True∧((iAdd .i64 (k0:Int) 1)=((k0 + 1:Nat):Int)))∧(TT∧True)))
      ([(3,qi ((k0 + 1:Nat):Int)),(2,qp 16 0),(1,qp 0 0)],[(0,.ints .i64 16 ((((itr (F46l1) 16 (0,z0)).2).set 15 (iSub .i64 (((itr (F46l1) 16 (0,z0)).2).getD 15 0) (iShl .i64 (iShr .i64 (((itr (F46l1) 16 (0,z0)).2).getD 15 0) 15) 15))).set 0 (iAdd .i64 ((((itr (F46l1) 16 (0,z0)).2).set 15 (iSub .i64 (((itr (F46l1) 16 (0,z0)).2).getD 15 0) (iShl .i64 (iShr .i64 (((itr (F46l1) 16 (0,z0)).2).getD 15 0) 15) 15))).getD 0 0) (iAdd .i64 (iMul .i64 19 (iShr .i64 (((itr (F46l1) 16 (0,z0)).2).getD 15 0) 15)) (iMul .i64 38 ((itr (F46l1) 16 (0,z0)).1)))))),(16,.ints .i64 16 [0,0,0,0,0,0,0,0,0,0,0,0,0,0,0,0])])
      528 (⟨tt,⟨⟨trivial,(iAdd_nat (a:=k0) (b:=1) (by omega))⟩,⟨tt,trivial⟩⟩⟩) ?_
    refine countP_normal (by omega) trivial ?_
    exact Sub.ren (ns:=[(16,16),(0,0)]) (kf:=[3,2,1]) (by kernel_rfl) (by kernel_rfl)
  ·
   have h1':=of_decide_eq_false h1
   refine Tri.exit ?_
   have hend0:k0=4:=by (have:=of_decide_eq_false h1; omega)
   subst hend0; subst hz0
   change Tri _ _ _ _ _ _
   refine sr [] none [8,2,1] [96,16,0] (TT∧(TT∧(((True∧(16=16))∧True)∧True)))
     ([(8,qp 96 0),(2,qp 16 0),(1,qp 0 0)],[(96,.ints .i64 16 (itr (F46l0) 4 p0)),(16,.ints .i64 16 [0,0,0,0,0,0,0,0,0,0,0,0,0,0,0,0]),(0,.ints .i64 16 (itr (F46l0) 4 p0))])
     128 (⟨tt,⟨tt,⟨⟨⟨trivial,(rfl)⟩,trivial⟩,trivial⟩⟩⟩) ?_
   refine sr [] none [8,2,1] [96,16,0] ((((0:Int)≤0∧0 < ((16:Nat):Int))∧True)∧(((0 < 16)∧True)∧(TT∧((((0:Int)≤0∧0 < ((16:Nat):Int))∧True)∧((((0 < 16)∧(1=1))∧True)∧True)))))
     ([(8,qp 96 0),(2,qp 16 0),(1,qp 0 0)],[(96,.ints .i64 16 ((itr (F46l0) 4 p0).set 0 (iAdd .i64 ((itr (F46l0) 4 p0).getD 0 0) 19))),(16,.ints .i64 16 [0,0,0,0,0,0,0,0,0,0,0,0,0,0,0,0]),(0,.ints .i64 16 (itr (F46l0) 4 p0))])
     208 (⟨⟨(by omega),trivial⟩,⟨⟨(by omega),trivial⟩,⟨tt,⟨⟨(by omega),trivial⟩,⟨⟨⟨(by omega),(rfl)⟩,trivial⟩,trivial⟩⟩⟩⟩⟩) ?_
   refine sr [] none [9,8,2,1] [96,16,0] (TT∧True)
     ([(9,qi 0),(8,qp 96 0),(2,qp 16 0),(1,qp 0 0)],[(96,.ints .i64 16 ((itr (F46l0) 4 p0).set 0 (iAdd .i64 ((itr (F46l0) 4 p0).getD 0 0) 19))),(16,.ints .i64 16 [0,0,0,0,0,0,0,0,0,0,0,0,0,0,0,0]),(0,.ints .i64 16 (itr (F46l0) 4 p0))])
     224 (⟨tt,trivial⟩) ?_
   refine Tri.seq ?_
   refine sr [] none [10,9,8,2,1] [96,16,0] (TT∧True)
     ([(10,qi 0),(9,qi 0),(8,qp 96 0),(2,qp 16 0),(1,qp 0 0)],[(96,.ints .i64 16 ((itr (F46l0) 4 p0).set 0 (iAdd .i64 ((itr (F46l0) 4 p0).getD 0 0) 19))),(16,.ints .i64 16 [0,0,0,0,0,0,0,0,0,0,0,0,0,0,0,0]),(0,.ints .i64 16 (itr (F46l0) 4 p0))])
     240 (⟨tt,trivial⟩) ?_
   refine Tri.block ?_
   refine Tri.count 240 16 (F46l2) (0,(itr (F46l0) 4 p0).set 0 (iAdd .i64 ((itr (F46l0) 4 p0).getD 0 0) 19)) (fun k2 z2 => True) (fun k2 z2 => ([(10,qi (k2:Int)),(9,qi z2.1),(8,qp 96 0),(2,qp 16 0),(1,qp 0 0)],[(96,.ints .i64 16 z2.2),(16,.ints .i64 16 [0,0,0,0,0,0,0,0,0,0,0,0,0,0,0,0]),(0,.ints .i64 16 (itr (F46l0) 4 p0))])) trivial (Sub.of_eq (by kernel_rfl)) ?_
   intro k2 z2 hk2 hz2 hJ2
   refine Tri.seq ?_
   refine sr [] none [57,10,9,8,2,1] [96,16,0] (TT∧(TT∧True))
     ([(57,.sc (.b (decide (((k2:Int):Int) < 16)))),(10,qi (k2:Int)),(9,qi z2.1),(8,qp 96 0),(2,qp 16 0),(1,qp 0 0)],[(96,.ints .i64 16 z2.2),(16,.ints .i64 16 [0,0,0,0,0,0,0,0,0,0,0,0,0,0,0,0]),(0,.ints .i64 16 (itr (F46l0) 4 p0))])
     272 (⟨tt,⟨tt,trivial⟩⟩) ?_
   refine Tri.cond (x:=(decide (((k2:Int):Int) < 16))) (by kernel_rfl) (fun h3 => ?_) (fun h3 => ?_)
   ·
    have h3':=of_decide_eq_true h3
    refine Tri.skip ?_
    change Tri _ _ _ _ _ _
    refine Tri.seq ?_
    refine Tri.block ?_
    refine sr [] none [11,10,8,2,1] [96,16,0] (TT∧((((0:Int)≤(k2:Int)∧(k2:Int) < ((16:Nat):Int))∧True)∧(((k2 < 16)∧True)∧(TT∧(TT∧(TT∧True))))))
      ([(11,qi (iAdd .i64 (z2.2.getD k2 0) z2.1)),(10,qi (k2:Int)),(8,qp 96 0),(2,qp 16 0),(1,qp 0 0)],[(96,.ints .i64 16 z2.2),(16,.ints .i64 16 [0,0,0,0,0,0,0,0,0,0,0,0,0,0,0,0]),(0,.ints .i64 16 (itr (F46l0) 4 p0))])
      368 (⟨tt,⟨⟨(by omega),trivial⟩,⟨⟨(by omega),trivial⟩,⟨tt,⟨tt,⟨tt,trivial⟩⟩⟩⟩⟩⟩) ?_
    refine sr [] none [9,11,10,8,2,1] [96,16,0] (TT∧((((0:Int)≤16)∧True)∧(TT∧True)))
      ([(9,qi (iShr .i64 (iAdd .i64 (z2.2.getD k2 0) z2.1) 16)),(11,qi (iAdd .i64 (z2.2.getD k2 0) z2.1)),(10,qi (k2:Int)),(8,qp 96 0),(2,qp 16 0),(1,qp 0 0)],[(96,.ints .i64 16 z2.2),(16,.ints .i64 16 [0,0,0,0,0,0,0,0,0,0,0,0,0,0,0,0]),(0,.ints .i64 16 (itr (F46l0) 4 p0))])
      416 (⟨tt,⟨⟨(by omega),trivial⟩,⟨tt,trivial⟩⟩⟩) ?_
    refine rr [] none [9,10,8,2,1] [96,16,0] (TT∧(TT∧(TT∧((((0:Int)≤16)∧True)∧(TT∧((((0:Int)≤(k2:Int)∧(k2:Int) < ((16:Nat):Int))∧True)∧((((k2 < 16)∧(1=1))∧True)∧True)))))))
      ([(9,qi (iShr .i64 (iAdd .i64 (z2.2.getD k2 0) z2.1) 16)),(10,qi (k2:Int)),(8,qp 96 0),(2,qp 16 0),(1,qp 0 0)],[(96,.ints .i64 16 (z2.2.set k2 (iSub .i64 (iAdd .i64 (z2.2.getD k2 0) z2.1) (iShl .i64 (iShr .i64 (iAdd .i64 (z2.2.getD k2 0) z2.1) 16) 16)))),(16,.ints .i64 16 [0,0,0,0,0,0,0,0,0,0,0,0,0,0,0,0]),(0,.ints .i64 16 (itr (F46l0) 4 p0))])
      528 (⟨tt,⟨tt,⟨tt,⟨⟨(by omega),trivial⟩,⟨tt,⟨⟨(by omega),trivial⟩,⟨⟨⟨(by omega),(rfl)⟩,trivial⟩,trivial⟩⟩⟩⟩⟩⟩⟩) ?_
    change Tri _ _ _ _ _ _
    refine rr [(59,.i .i64 ((k2 + 1:Nat):Int))] none [10,9,8,2,1] [96,16,0] (TT∧((True∧((iAdd .i64 (k2:Int) 1)=((k2 + 1:Nat):Int)))∧(TT∧True)))
      ([(10,qi ((k2 + 1:Nat):Int)),(9,qi (iShr .i64 (iAdd .i64 (z2.2.getD k2 0) z2.1) 16)),(8,qp 96 0),(2,qp 16 0),(1,qp 0 0)],[(96,.ints .i64 16 (z2.2.set k2 (iSub .i64 (iAdd .i64 (z2.2.getD k2 0) z2.1) (iShl .i64 (iShr .i64 (iAdd .i64 (z2.2.getD k2 0) z2.1) 16) 16)))),(16,.ints .i64 16 [0,0,0,0,0,0,0,0,0,0,0,0,0,0,0,0]),(0,.ints .i64 16 (itr (F46l0) 4 p0))])
      576 (⟨tt,⟨⟨trivial,(iAdd_nat (a:=k2) (b:=1) (by omega))⟩,⟨tt,trivial⟩⟩⟩) ?_
    refine countP_normal (by omega) trivial ?_
    exact Sub.ren (ns:=[(96,96),(16,16),(0,0)]) (kf:=[10,9,8,2,1]) (by kernel_rfl) (by kernel_rfl)
   ·
    have h3':=of_decide_eq_false h3
    refine Tri.exit ?_
    have hend2:k2=16:=by (have:=of_decide_eq_false h3; omega)
    subst hend2; subst hz2
    change Tri _ _ _ _ _ _
    refine Tri.seq ?_
    refine sr [] none [75,8,2,1] [96,16,0] ((((0:Int)≤15∧15 < ((16:Nat):Int))∧True)∧(((15 < 16)∧True)∧(TT∧True)))
      ([(75,.sc (.b (decide ((((itr (F46l2) 16 (0,(itr (F46l0) 4 p0).set 0 (iAdd .i64 ((itr (F46l0) 4 p0).getD 0 0) 19))).2).getD 15 0:Int) ≥ 32768)))),(8,qp 96 0),(2,qp 16 0),(1,qp 0 0)],[(96,.ints .i64 16 ((itr (F46l2) 16 (0,(itr (F46l0) 4 p0).set 0 (iAdd .i64 ((itr (F46l0) 4 p0).getD 0 0) 19))).2)),(16,.ints .i64 16 [0,0,0,0,0,0,0,0,0,0,0,0,0,0,0,0]),(0,.ints .i64 16 (itr (F46l0) 4 p0))])
      320 (⟨⟨(by omega),trivial⟩,⟨⟨(by omega),trivial⟩,⟨tt,trivial⟩⟩⟩) ?_
    refine Tri.cond (x:=(decide ((((itr (F46l2) 16 (0,(itr (F46l0) 4 p0).set 0 (iAdd .i64 ((itr (F46l0) 4 p0).getD 0 0) 19))).2).getD 15 0:Int) ≥ 32768))) (by kernel_rfl) (fun h4 => ?_) (fun h4 => ?_)
    ·
     have h4':=of_decide_eq_true h4
     refine sr [] none [8,2] [96,16] ((((0:Int)≤15∧15 < ((16:Nat):Int))∧True)∧(((15 < 16)∧True)∧(TT∧((((0:Int)≤15∧15 < ((16:Nat):Int))∧True)∧((((15 < 16)∧(1=1))∧True)∧True)))))
       ([(8,qp 96 0),(2,qp 16 0)],[(96,.ints .i64 16 (((itr (F46l2) 16 (0,(itr (F46l0) 4 p0).set 0 (iAdd .i64 ((itr (F46l0) 4 p0).getD 0 0) 19))).2).set 15 (iSub .i64 (((itr (F46l2) 16 (0,(itr (F46l0) 4 p0).set 0 (iAdd .i64 ((itr (F46l0) 4 p0).getD 0 0) 19))).2).getD 15 0) 32768))),(16,.ints .i64 16 [0,0,0,0,0,0,0,0,0,0,0,0,0,0,0,0])])
       400 (⟨⟨(by omega),trivial⟩,⟨⟨(by omega),trivial⟩,⟨tt,⟨⟨(by omega),trivial⟩,⟨⟨⟨(by omega),(rfl)⟩,trivial⟩,trivial⟩⟩⟩⟩⟩) ?_
     refine sr [] none [2] [16] (TT∧(((True∧(16=16))∧True)∧True))
       ([(2,qp 16 0)],[(16,.ints .i64 16 (((itr (F46l2) 16 (0,(itr (F46l0) 4 p0).set 0 (iAdd .i64 ((itr (F46l0) 4 p0).getD 0 0) 19))).2).set 15 (iSub .i64 (((itr (F46l2) 16 (0,(itr (F46l0) 4 p0).set 0 (iAdd .i64 ((itr (F46l0) 4 p0).getD 0 0) 19))).2).getD 15 0) 32768)))])
       432 (⟨tt,⟨⟨⟨trivial,(rfl)⟩,trivial⟩,trivial⟩⟩) ?_
     refine Tri.ret ?_
     repeat (first | refine thenP_ret ?_ | refine blkP_ret ?_ | refine countP_ret ?_ | refine joinP_ret ?_)
     refine endP.conv (r':=⟨.ints .i64 16 (((itr (F46l2) 16 (0,(itr (F46l0) 4 p0).set 0 (iAdd .i64 ((itr (F46l0) 4 p0).getD 0 0) 19))).2).set 15 (iSub .i64 (((itr (F46l2) 16 (0,(itr (F46l0) 4 p0).set 0 (iAdd .i64 ((itr (F46l0) 4 p0).getD 0 0) 19))).2).getD 15 0) 32768)),[]⟩) (by simp only [F46,h4,sel_true,sel_false]) ?_
     exact endP.ret [] TT (by kernel_rfl) (by kernel_rfl) (by kernel_rfl) tt
    ·
     have h4':=of_decide_eq_false h4
     refine Tri.skip ?_
     change Tri _ _ _ _ _ _
     refine sr [] none [2] [16] (TT∧(((True∧(16=16))∧True)∧True))
       ([(2,qp 16 0)],[(16,.ints .i64 16 (itr (F46l0) 4 p0))])
       352 (⟨tt,⟨⟨⟨trivial,(rfl)⟩,trivial⟩,trivial⟩⟩) ?_
     refine Tri.ret ?_
     repeat (first | refine thenP_ret ?_ | refine blkP_ret ?_ | refine countP_ret ?_ | refine joinP_ret ?_)
     refine endP.conv (r':=⟨.ints .i64 16 (itr (F46l0) 4 p0),[]⟩) (by simp only [F46,h4,sel_true,sel_false]) ?_
     exact endP.ret [] TT (by kernel_rfl) (by kernel_rfl) (by kernel_rfl) tt
noncomputable def F17l0 (p1:List Int) (k0:Nat) (z0:List Int):List Int :=
 z0.set k0 (iAdd .i64 (z0.getD k0 0) (p1.getD k0 0))
noncomputable def F17 (p0:List Int) (p1:List Int):List Int :=
 (F46 (itr (F17l0 p1) 16 p0))
noncomputable def S17:List AV→Option (Prop × Ret)
 | [.ints .i64 16 p0,.ints .i64 16 p1] => some (True,⟨.ints .i64 16 (F17 p0 p1),[]⟩)
 | _ => none
noncomputable def B17:Bs:={ P:=Go.Proofs.Tryd.prog,G:=gD,tab:=tabOf [(79,⟨[.val],0,S46⟩)],n:=20 }
theorem B17.ok:B17.Ok:=⟨tabOk (P:=Go.Proofs.Tryd.prog) (G:=gD) (l:=[(79,⟨[.val],0,S46⟩)]) (And.intro K46 True.intro),mixed⟩
theorem K17:Known Go.Proofs.Tryd.prog gD 80 ⟨[.val,.val],0,S17⟩:=by
 refine Known.walk (B:=B17) (fn:=Go.Proofs.Tryd.f80) B17.ok (by kernel_rfl) rfl (by kernel_rfl) (by kernel_rfl) (by decide) ?_ ?_
 ·intro vs C r h
  simp only at h
  unfold S17 at h
  split at h
  ·cases h; rfl
  ·cases h
 ·intro E args C r h hC hlen
  simp only at h
  unfold S17 at h
  split at h
  rotate_left
  ·cases h
  rename_i p0 p1
  cases h
  simp only [lens] at hlen
  refine ⟨show 2≤20 from by decide,?_⟩
  refine Tri.sub (Sub.of_eq (show _=([(0,.ints .i64 16 p0),(1,.ints .i64 16 p1)],[]) from rfl)) ?_
  refine sr [] none [4,3,2] [32,16,0] (TT∧(TT∧(TT∧True)))
    ([(4,qp 32 0),(3,qp 16 0),(2,qp 0 0)],[(32,.ints .i64 16 [0,0,0,0,0,0,0,0,0,0,0,0,0,0,0,0]),(16,.ints .i64 16 p1),(0,.ints .i64 16 p0)])
    48 (⟨tt,⟨tt,⟨tt,trivial⟩⟩⟩) ?_
  refine Tri.seq ?_
  refine sr [] none [5,4,3,2] [32,16,0] (TT∧True)
    ([(5,qi 0),(4,qp 32 0),(3,qp 16 0),(2,qp 0 0)],[(32,.ints .i64 16 [0,0,0,0,0,0,0,0,0,0,0,0,0,0,0,0]),(16,.ints .i64 16 p1),(0,.ints .i64 16 p0)])
    64 (⟨tt,trivial⟩) ?_
  refine Tri.block ?_
  refine Tri.count 64 16 (F17l0 p1) p0 (fun k0 z0 => True) (fun k0 z0 => ([(5,qi (k0:Int)),(4,qp 32 0),(3,qp 16 0),(2,qp 0 0)],[(32,.ints .i64 16 [0,0,0,0,0,0,0,0,0,0,0,0,0,0,0,0]),(16,.ints .i64 16 p1),(0,.ints .i64 16 z0)])) trivial (Sub.of_eq (by kernel_rfl)) ?_
  intro k0 z0 hk0 hz0 hJ0
  refine Tri.seq ?_
  refine sr [] none [7,5,4,3,2] [32,16,0] (TT∧(TT∧True))
    ([(7,.sc (.b (decide (((k0:Int):Int) < 16)))),(5,qi (k0:Int)),(4,qp 32 0),(3,qp 16 0),(2,qp 0 0)],[(32,.ints .i64 16 [0,0,0,0,0,0,0,0,0,0,0,0,0,0,0,0]),(16,.ints .i64 16 p1),(0,.ints .i64 16 z0)])
    96 (⟨tt,⟨tt,trivial⟩⟩) ?_
  refine Tri.cond (x:=(decide (((k0:Int):Int) < 16))) (by kernel_rfl) (fun h1 => ?_) (fun h1 => ?_)
  ·
   have h1':=of_decide_eq_true h1
   refine Tri.skip ?_
   change Tri _ _ _ _ _ _
   refine Tri.seq ?_
   refine Tri.block ?_
   refine rr [] (some [0,1,3,0,8,24,63,127,255]) [5,4,3,2] [0,32,16] (TT∧((((0:Int)≤(k0:Int)∧(k0:Int) < ((16:Nat):Int))∧True)∧(((k0 < 16)∧True)∧(TT∧((((0:Int)≤(k0:Int)∧(k0:Int) < ((16:Nat):Int))∧True)∧(((k0 < 16)∧True)∧(TT∧((((0:Int)≤(k0:Int)∧(k0:Int) < ((16:Nat):Int))∧True)∧((((k0 < 16)∧(1=1))∧True)∧True)))))))))
     ([(5,qi (k0:Int)),(4,qp 32 0),(3,qp 16 0),(2,qp 0 0)],[(0,.ints .i64 16 (z0.set k0 (iAdd .i64 (z0.getD k0 0) (p1.getD k0 0)))),(32,.ints .i64 16 [0,0,0,0,0,0,0,0,0,0,0,0,0,0,0,0]),(16,.ints .i64 16 p1)])
     240 (⟨tt,⟨⟨(by omega),trivial⟩,⟨⟨(by omega),trivial⟩,⟨tt,⟨⟨(by omega),trivial⟩,⟨⟨(by omega),trivial⟩,⟨tt,⟨⟨(by omega),trivial⟩,⟨⟨⟨(by omega),(rfl)⟩,trivial⟩,trivial⟩⟩⟩⟩⟩⟩⟩⟩⟩) ?_
   change Tri _ _ _ _ _ _
   refine rr [(9,.i .i64 ((k0 + 1:Nat):Int))] none [5,4,3,2] [0,32,16] (TT∧((True∧((iAdd .i64 (k0:Int) 1)=((k0 + 1:Nat):Int)))∧(TT∧True)))
     ([(5,qi ((k0 + 1:Nat):Int)),(4,qp 32 0),(3,qp 16 0),(2,qp 0 0)],[(0,.ints .i64 16 (z0.set k0 (iAdd .i64 (z0.getD k0 0) (p1.getD k0 0)))),(32,.ints .i64 16 [0,0,0,0,0,0,0,0,0,0,0,0,0,0,0,0]),(16,.ints .i64 16 p1)])
     288 (⟨tt,⟨⟨trivial,(iAdd_nat (a:=k0) (b:=1) (by omega))⟩,⟨tt,trivial⟩⟩⟩) ?_
   refine countP_normal (by omega) trivial ?_
   exact Sub.ren (ns:=[(32,32),(16,16),(0,0)]) (kf:=[5,4,3,2]) (by kernel_rfl) (by kernel_rfl)
  ·
   have h1':=of_decide_eq_false h1
   refine Tri.exit ?_
   have hend0:k0=16:=by (have:=of_decide_eq_false h1; omega)
   subst hend0; subst hz0
   change Tri _ _ _ _ _ _
   refine sr [] none [4] [32] (TT∧((TT∧True)∧(((True∧(16=16))∧True)∧True)))
     ([(4,qp 32 0)],[(32,.ints .i64 16 (F46 (itr (F17l0 p1) 16 p0)))])
     144 (⟨tt,⟨⟨tt,trivial⟩,⟨⟨⟨trivial,(rfl)⟩,trivial⟩,trivial⟩⟩⟩) ?_
   refine Tri.ret ?_
   exact endP.ret [] TT (by kernel_rfl) (by kernel_rfl) (by kernel_rfl) tt
noncomputable def F19l0 (p1:List Int) (k0:Nat) (z0:List Int):List Int :=
 z0.set k0 (iSub .i64 (z0.getD k0 0) (p1.getD k0 0))
noncomputable def F19l1 (k1:Nat) (z1:List Int):List Int :=
 z1.set (k1 + 1) (iAdd .i64 (z1.getD (k1 + 1) 0) 131070)
noncomputable def F19 (p0:List Int) (p1:List Int):List Int :=
 (F46 ((itr (F19l1) 14 ((itr (F19l0 p1) 16 p0).set 0 (iAdd .i64 ((itr (F19l0 p1) 16 p0).getD 0 0) 131034))).set 15 (iAdd .i64 ((itr (F19l1) 14 ((itr (F19l0 p1) 16 p0).set 0 (iAdd .i64 ((itr (F19l0 p1) 16 p0).getD 0 0) 131034))).getD 15 0) 65534)))
noncomputable def S19:List AV→Option (Prop × Ret)
 | [.ints .i64 16 p0,.ints .i64 16 p1] => some (True,⟨.ints .i64 16 (F19 p0 p1),[]⟩)
 | _ => none
noncomputable def B19:Bs:={ P:=Go.Proofs.Tryd.prog,G:=gD,tab:=tabOf [(79,⟨[.val],0,S46⟩)],n:=38 }
theorem B19.ok:B19.Ok:=⟨tabOk (P:=Go.Proofs.Tryd.prog) (G:=gD) (l:=[(79,⟨[.val],0,S46⟩)]) (And.intro K46 True.intro),mixed⟩
theorem K19:Known Go.Proofs.Tryd.prog gD 69 ⟨[.val,.val],0,S19⟩:=by
 refine Known.walk (B:=B19) (fn:=Go.Proofs.Tryd.f69) B19.ok (by kernel_rfl) rfl (by kernel_rfl) (by kernel_rfl) (by decide) ?_ ?_
 ·intro vs C r h
  simp only at h
  unfold S19 at h
  split at h
  ·cases h; rfl
  ·cases h
 ·intro E args C r h hC hlen
  simp only at h
  unfold S19 at h
  split at h
  rotate_left
  ·cases h
  rename_i p0 p1
  cases h
  simp only [lens] at hlen
  refine ⟨show 2≤38 from by decide,?_⟩
  refine Tri.sub (Sub.of_eq (show _=([(0,.ints .i64 16 p0),(1,.ints .i64 16 p1)],[]) from rfl)) ?_
  refine sr [] none [4,3,2] [32,16,0] (TT∧(TT∧(TT∧True)))
    ([(4,qp 32 0),(3,qp 16 0),(2,qp 0 0)],[(32,.ints .i64 16 [0,0,0,0,0,0,0,0,0,0,0,0,0,0,0,0]),(16,.ints .i64 16 p1),(0,.ints .i64 16 p0)])
    48 (⟨tt,⟨tt,⟨tt,trivial⟩⟩⟩) ?_
  refine Tri.seq ?_
  refine sr [] none [5,4,3,2] [32,16,0] (TT∧True)
    ([(5,qi 0),(4,qp 32 0),(3,qp 16 0),(2,qp 0 0)],[(32,.ints .i64 16 [0,0,0,0,0,0,0,0,0,0,0,0,0,0,0,0]),(16,.ints .i64 16 p1),(0,.ints .i64 16 p0)])
    64 (⟨tt,trivial⟩) ?_
  refine Tri.block ?_
  refine Tri.count 64 16 (F19l0 p1) p0 (fun k0 z0 => True) (fun k0 z0 => ([(5,qi (k0:Int)),(4,qp 32 0),(3,qp 16 0),(2,qp 0 0)],[(32,.ints .i64 16 [0,0,0,0,0,0,0,0,0,0,0,0,0,0,0,0]),(16,.ints .i64 16 p1),(0,.ints .i64 16 z0)])) trivial (Sub.of_eq (by kernel_rfl)) ?_
  intro k0 z0 hk0 hz0 hJ0
  refine Tri.seq ?_
  refine sr [] none [8,5,4,3,2] [32,16,0] (TT∧(TT∧True))
    ([(8,.sc (.b (decide (((k0:Int):Int) < 16)))),(5,qi (k0:Int)),(4,qp 32 0),(3,qp 16 0),(2,qp 0 0)],[(32,.ints .i64 16 [0,0,0,0,0,0,0,0,0,0,0,0,0,0,0,0]),(16,.ints .i64 16 p1),(0,.ints .i64 16 z0)])
    96 (⟨tt,⟨tt,trivial⟩⟩) ?_
  refine Tri.cond (x:=(decide (((k0:Int):Int) < 16))) (by kernel_rfl) (fun h1 => ?_) (fun h1 => ?_)
  ·
   have h1':=of_decide_eq_true h1
   refine Tri.skip ?_
   change Tri _ _ _ _ _ _
   refine Tri.seq ?_
   refine Tri.block ?_
   refine rr [] (some [0,1,3,0,8,24,63,127,255]) [5,4,3,2] [0,32,16] (TT∧((((0:Int)≤(k0:Int)∧(k0:Int) < ((16:Nat):Int))∧True)∧(((k0 < 16)∧True)∧(TT∧((((0:Int)≤(k0:Int)∧(k0:Int) < ((16:Nat):Int))∧True)∧(((k0 < 16)∧True)∧(TT∧((((0:Int)≤(k0:Int)∧(k0:Int) < ((16:Nat):Int))∧True)∧((((k0 < 16)∧(1=1))∧True)∧True)))))))))
     ([(5,qi (k0:Int)),(4,qp 32 0),(3,qp 16 0),(2,qp 0 0)],[(0,.ints .i64 16 (z0.set k0 (iSub .i64 (z0.getD k0 0) (p1.getD k0 0)))),(32,.ints .i64 16 [0,0,0,0,0,0,0,0,0,0,0,0,0,0,0,0]),(16,.ints .i64 16 p1)])
     240 (⟨tt,⟨⟨(by omega),trivial⟩,⟨⟨(by omega),trivial⟩,⟨tt,⟨⟨(by omega),trivial⟩,⟨⟨(by omega),trivial⟩,⟨tt,⟨⟨(by omega),trivial⟩,⟨⟨⟨(by omega),(rfl)⟩,trivial⟩,trivial⟩⟩⟩⟩⟩⟩⟩⟩⟩) ?_
   change Tri _ _ _ _ _ _
   refine rr [(10,.i .i64 ((k0 + 1:Nat):Int))] none [5,4,3,2] [0,32,16] (TT∧((True∧((iAdd .i64 (k0:Int) 1)=((k0 + 1:Nat):Int)))∧(TT∧True)))
     ([(5,qi ((k0 + 1:Nat):Int)),(4,qp 32 0),(3,qp 16 0),(2,qp 0 0)],[(0,.ints .i64 16 (z0.set k0 (iSub .i64 (z0.getD k0 0) (p1.getD k0 0)))),(32,.ints .i64 16 [0,0,0,0,0,0,0,0,0,0,0,0,0,0,0,0]),(16,.ints .i64 16 p1)])
     288 (⟨tt,⟨⟨trivial,(iAdd_nat (a:=k0) (b:=1) (by omega))⟩,⟨tt,trivial⟩⟩⟩) ?_
   refine countP_normal (by omega) trivial ?_
   exact Sub.ren (ns:=[(32,32),(16,16),(0,0)]) (kf:=[5,4,3,2]) (by kernel_rfl) (by kernel_rfl)
  ·
   have h1':=of_decide_eq_false h1
   refine Tri.exit ?_
   have hend0:k0=16:=by (have:=of_decide_eq_false h1; omega)
   subst hend0; subst hz0
   change Tri _ _ _ _ _ _
   refine sr [] none [4,2] [0,32] ((((0:Int)≤0∧0 < ((16:Nat):Int))∧True)∧(((0 < 16)∧True)∧(TT∧((((0:Int)≤0∧0 < ((16:Nat):Int))∧True)∧((((0 < 16)∧(1=1))∧True)∧True)))))
     ([(4,qp 32 0),(2,qp 0 0)],[(0,.ints .i64 16 ((itr (F19l0 p1) 16 p0).set 0 (iAdd .i64 ((itr (F19l0 p1) 16 p0).getD 0 0) 131034))),(32,.ints .i64 16 [0,0,0,0,0,0,0,0,0,0,0,0,0,0,0,0])])
     176 (⟨⟨(by omega),trivial⟩,⟨⟨(by omega),trivial⟩,⟨tt,⟨⟨(by omega),trivial⟩,⟨⟨⟨(by omega),(rfl)⟩,trivial⟩,trivial⟩⟩⟩⟩⟩) ?_
   refine Tri.seq ?_
   refine sr [] none [6,4,2] [0,32] (TT∧True)
     ([(6,qi 1),(4,qp 32 0),(2,qp 0 0)],[(0,.ints .i64 16 ((itr (F19l0 p1) 16 p0).set 0 (iAdd .i64 ((itr (F19l0 p1) 16 p0).getD 0 0) 131034))),(32,.ints .i64 16 [0,0,0,0,0,0,0,0,0,0,0,0,0,0,0,0])])
     192 (⟨tt,trivial⟩) ?_
   refine Tri.block ?_
   refine Tri.count 192 14 (F19l1) ((itr (F19l0 p1) 16 p0).set 0 (iAdd .i64 ((itr (F19l0 p1) 16 p0).getD 0 0) 131034)) (fun k1 z1 => True) (fun k1 z1 => ([(6,qi ((k1 + 1:Nat):Int)),(4,qp 32 0),(2,qp 0 0)],[(0,.ints .i64 16 z1),(32,.ints .i64 16 [0,0,0,0,0,0,0,0,0,0,0,0,0,0,0,0])])) trivial (Sub.of_eq (by kernel_rfl)) ?_
   intro k1 z1 hk1 hz1 hJ1
   refine Tri.seq ?_
   refine sr [] none [24,6,4,2] [0,32] (TT∧(TT∧True))
     ([(24,.sc (.b (decide ((((k1 + 1:Nat):Int):Int) < 15)))),(6,qi ((k1 + 1:Nat):Int)),(4,qp 32 0),(2,qp 0 0)],[(0,.ints .i64 16 z1),(32,.ints .i64 16 [0,0,0,0,0,0,0,0,0,0,0,0,0,0,0,0])])
     224 (⟨tt,⟨tt,trivial⟩⟩) ?_
   refine Tri.cond (x:=(decide ((((k1 + 1:Nat):Int):Int) < 15))) (by kernel_rfl) (fun h2 => ?_) (fun h2 => ?_)
   ·
    have h2':=of_decide_eq_true h2
    refine Tri.skip ?_
    change Tri _ _ _ _ _ _
    refine Tri.seq ?_
    refine Tri.block ?_
    refine rr [] none [6,4,2] [0,32] (TT∧((((0:Int)≤((k1 + 1:Nat):Int)∧((k1 + 1:Nat):Int) < ((16:Nat):Int))∧True)∧(((k1 + 1 < 16)∧True)∧(TT∧((((0:Int)≤((k1 + 1:Nat):Int)∧((k1 + 1:Nat):Int) < ((16:Nat):Int))∧True)∧((((k1 + 1 < 16)∧(1=1))∧True)∧True))))))
      ([(6,qi ((k1 + 1:Nat):Int)),(4,qp 32 0),(2,qp 0 0)],[(0,.ints .i64 16 (z1.set (k1 + 1) (iAdd .i64 (z1.getD (k1 + 1) 0) 131070))),(32,.ints .i64 16 [0,0,0,0,0,0,0,0,0,0,0,0,0,0,0,0])])
      320 (⟨tt,⟨⟨(by omega),trivial⟩,⟨⟨(by omega),trivial⟩,⟨tt,⟨⟨(by omega),trivial⟩,⟨⟨⟨(by omega),(rfl)⟩,trivial⟩,trivial⟩⟩⟩⟩⟩⟩) ?_
    change Tri _ _ _ _ _ _
    refine rr [(26,.i .i64 (((k1 + 1) + 1:Nat):Int))] none [6,4,2] [0,32] (TT∧((True∧((iAdd .i64 ((k1 + 1:Nat):Int) 1)=(((k1 + 1) + 1:Nat):Int)))∧(TT∧True)))
      ([(6,qi (((k1 + 1) + 1:Nat):Int)),(4,qp 32 0),(2,qp 0 0)],[(0,.ints .i64 16 (z1.set (k1 + 1) (iAdd .i64 (z1.getD (k1 + 1) 0) 131070))),(32,.ints .i64 16 [0,0,0,0,0,0,0,0,0,0,0,0,0,0,0,0])])
      368 (⟨tt,⟨⟨trivial,(iAdd_nat (a:=k1 + 1) (b:=1) (by omega))⟩,⟨tt,trivial⟩⟩⟩) ?_
    refine countP_normal (by omega) trivial ?_
    exact Sub.ren (ns:=[(0,0),(32,32)]) (kf:=[6,4,2]) (by kernel_rfl) (by kernel_rfl)
   ·
    have h2':=of_decide_eq_false h2
    refine Tri.exit ?_
    have hend1:k1=14:=by (have:=of_decide_eq_false h2; omega)
    subst hend1; subst hz1
    change Tri _ _ _ _ _ _
    refine sr [] none [4,2] [0,32] ((((0:Int)≤15∧15 < ((16:Nat):Int))∧True)∧(((15 < 16)∧True)∧(TT∧((((0:Int)≤15∧15 < ((16:Nat):Int))∧True)∧((((15 < 16)∧(1=1))∧True)∧True)))))
      ([(4,qp 32 0),(2,qp 0 0)],[(0,.ints .i64 16 ((itr (F19l1) 14 ((itr (F19l0 p1) 16 p0).set 0 (iAdd .i64 ((itr (F19l0 p1) 16 p0).getD 0 0) 131034))).set 15 (iAdd .i64 ((itr (F19l1) 14 ((itr (F19l0 p1) 16 p0).set 0 (iAdd .i64 ((itr (F19l0 p1) 16 p0).getD 0 0) 131034))).getD 15 0) 65534))),(32,.ints .i64 16 [0,0,0,0,0,0,0,0,0,0,0,0,0,0,0,0])])
      304 (⟨⟨(by omega),trivial⟩,⟨⟨(by omega),trivial⟩,⟨tt,⟨⟨(by omega),trivial⟩,⟨⟨⟨(by omega),(rfl)⟩,trivial⟩,trivial⟩⟩⟩⟩⟩) ?_
    refine sr [] none [4] [32] (TT∧((TT∧True)∧(((True∧(16=16))∧True)∧True)))
      ([(4,qp 32 0)],[(32,.ints .i64 16 (F46 ((itr (F19l1) 14 ((itr (F19l0 p1) 16 p0).set 0 (iAdd .i64 ((itr (F19l0 p1) 16 p0).getD 0 0) 131034))).set 15 (iAdd .i64 ((itr (F19l1) 14 ((itr (F19l0 p1) 16 p0).set 0 (iAdd .i64 ((itr (F19l0 p1) 16 p0).getD 0 0) 131034))).getD 15 0) 65534))))])
      352 (⟨tt,⟨⟨tt,trivial⟩,⟨⟨⟨trivial,(rfl)⟩,trivial⟩,trivial⟩⟩⟩) ?_
    refine Tri.ret ?_
    exact endP.ret [] TT (by kernel_rfl) (by kernel_rfl) (by kernel_rfl) tt
noncomputable def F21l1 (p0:List Int) (p1:List Int) (k0:Nat) (k1:Nat) (z1:List Int):List Int :=
 z1.set (k0 + k1) (iAdd .i64 (z1.getD (k0 + k1) 0) (iMul .i64 (p0.getD k0 0) (p1.getD k1 0)))
noncomputable def F21l0 (p0:List Int) (p1:List Int) (k0:Nat) (z0:List Int):List Int :=
 (itr (F21l1 p0 p1 k0) 16 z0)
noncomputable def F21l2 (k2:Nat) (z2:Int × List Int):Int × List Int :=
 ((iShr .i64 (iAdd .i64 (z2.2.getD k2 0) z2.1) 16),z2.2.set k2 (iSub .i64 (iAdd .i64 (z2.2.getD k2 0) z2.1) (iShl .i64 (iShr .i64 (iAdd .i64 (z2.2.getD k2 0) z2.1) 16) 16)))
noncomputable def F21l3 (p0:List Int) (p1:List Int) (k3:Nat) (z3:List Int):List Int :=
 z3.set k3 (iAdd .i64 (((itr (F21l2) 32 (0,(itr (F21l0 p0 p1) 16 [0,0,0,0,0,0,0,0,0,0,0,0,0,0,0,0,0,0,0,0,0,0,0,0,0,0,0,0,0,0,0,0]))).2).getD k3 0) (iMul .i64 38 (((itr (F21l2) 32 (0,(itr (F21l0 p0 p1) 16 [0,0,0,0,0,0,0,0,0,0,0,0,0,0,0,0,0,0,0,0,0,0,0,0,0,0,0,0,0,0,0,0]))).2).getD (k3 + 16) 0)))
noncomputable def F21 (p0:List Int) (p1:List Int):List Int :=
 (F46 (itr (F21l3 p0 p1) 16 [0,0,0,0,0,0,0,0,0,0,0,0,0,0,0,0]))
noncomputable def S21:List AV→Option (Prop × Ret)
 | [.ints .i64 16 p0,.ints .i64 16 p1] => some (True,⟨.ints .i64 16 (F21 p0 p1),[]⟩)
 | _ => none
noncomputable def B21:Bs:={ P:=Go.Proofs.Tryd.prog,G:=gD,tab:=tabOf [(79,⟨[.val],0,S46⟩)],n:=69 }
theorem B21.ok:B21.Ok:=⟨tabOk (P:=Go.Proofs.Tryd.prog) (G:=gD) (l:=[(79,⟨[.val],0,S46⟩)]) (And.intro K46 True.intro),mixed⟩
theorem K21:Known Go.Proofs.Tryd.prog gD 77 ⟨[.val,.val],0,S21⟩:=by
 refine Known.walk (B:=B21) (fn:=Go.Proofs.Tryd.f77) B21.ok (by kernel_rfl) rfl (by kernel_rfl) (by kernel_rfl) (by decide) ?_ ?_
 ·intro vs C r h
  simp only at h
  unfold S21 at h
  split at h
  ·cases h; rfl
  ·cases h
 ·intro E args C r h hC hlen
  simp only at h
  unfold S21 at h
  split at h
  rotate_left
  ·cases h
  rename_i p0 p1
  cases h
  simp only [lens] at hlen
  refine ⟨show 2≤69 from by decide,?_⟩
  refine Tri.sub (Sub.of_eq (show _=([(0,.ints .i64 16 p0),(1,.ints .i64 16 p1)],[]) from rfl)) ?_
  refine sr [] none [4,3,2] [32,16,0] (TT∧(TT∧(TT∧True)))
    ([(4,qp 32 0),(3,qp 16 0),(2,qp 0 0)],[(32,.ints .i64 16 [0,0,0,0,0,0,0,0,0,0,0,0,0,0,0,0]),(16,.ints .i64 16 p1),(0,.ints .i64 16 p0)])
    48 (⟨tt,⟨tt,⟨tt,trivial⟩⟩⟩) ?_
  refine sr [] none [5,4,3,2] [48,32,16,0] (TT∧True)
    ([(5,qp 48 0),(4,qp 32 0),(3,qp 16 0),(2,qp 0 0)],[(48,.ints .i64 32 [0,0,0,0,0,0,0,0,0,0,0,0,0,0,0,0,0,0,0,0,0,0,0,0,0,0,0,0,0,0,0,0]),(32,.ints .i64 16 [0,0,0,0,0,0,0,0,0,0,0,0,0,0,0,0]),(16,.ints .i64 16 p1),(0,.ints .i64 16 p0)])
    64 (⟨tt,trivial⟩) ?_
  refine Tri.seq ?_
  refine sr [] none [6,5,4,3,2] [48,32,16,0] (TT∧True)
    ([(6,qi 0),(5,qp 48 0),(4,qp 32 0),(3,qp 16 0),(2,qp 0 0)],[(48,.ints .i64 32 [0,0,0,0,0,0,0,0,0,0,0,0,0,0,0,0,0,0,0,0,0,0,0,0,0,0,0,0,0,0,0,0]),(32,.ints .i64 16 [0,0,0,0,0,0,0,0,0,0,0,0,0,0,0,0]),(16,.ints .i64 16 p1),(0,.ints .i64 16 p0)])
    80 (⟨tt,trivial⟩) ?_
  refine Tri.block ?_
  refine Tri.count 80 16 (F21l0 p0 p1) [0,0,0,0,0,0,0,0,0,0,0,0,0,0,0,0,0,0,0,0,0,0,0,0,0,0,0,0,0,0,0,0] (fun k0 z0 => True) (fun k0 z0 => ([(6,qi (k0:Int)),(5,qp 48 0),(4,qp 32 0),(3,qp 16 0),(2,qp 0 0)],[(48,.ints .i64 32 z0),(32,.ints .i64 16 [0,0,0,0,0,0,0,0,0,0,0,0,0,0,0,0]),(16,.ints .i64 16 p1),(0,.ints .i64 16 p0)])) trivial (Sub.of_eq (by kernel_rfl)) ?_
  intro k0 z0 hk0 hz0 hJ0
  refine Tri.seq ?_
  refine sr [] none [14,6,5,4,3,2] [48,32,16,0] (TT∧(TT∧True))
    ([(14,.sc (.b (decide (((k0:Int):Int) < 16)))),(6,qi (k0:Int)),(5,qp 48 0),(4,qp 32 0),(3,qp 16 0),(2,qp 0 0)],[(48,.ints .i64 32 z0),(32,.ints .i64 16 [0,0,0,0,0,0,0,0,0,0,0,0,0,0,0,0]),(16,.ints .i64 16 p1),(0,.ints .i64 16 p0)])
    112 (⟨tt,⟨tt,trivial⟩⟩) ?_
  refine Tri.cond (x:=(decide (((k0:Int):Int) < 16))) (by kernel_rfl) (fun h1 => ?_) (fun h1 => ?_)
  ·
   have h1':=of_decide_eq_true h1
   refine Tri.skip ?_
   change Tri _ _ _ _ _ _
   refine Tri.seq ?_
   refine Tri.block ?_
   refine sr [] none [7,6,5,4,3,2] [48,32,16,0] (TT∧True)
     ([(7,qi 0),(6,qi (k0:Int)),(5,qp 48 0),(4,qp 32 0),(3,qp 16 0),(2,qp 0 0)],[(48,.ints .i64 32 z0),(32,.ints .i64 16 [0,0,0,0,0,0,0,0,0,0,0,0,0,0,0,0]),(16,.ints .i64 16 p1),(0,.ints .i64 16 p0)])
     128 (⟨tt,trivial⟩) ?_
   refine Tri.block ?_
   refine Tri.count 128 16 (F21l1 p0 p1 k0) z0 (fun k1 z1 => True) (fun k1 z1 => ([(7,qi (k1:Int)),(6,qi (k0:Int)),(5,qp 48 0),(4,qp 32 0),(3,qp 16 0),(2,qp 0 0)],[(48,.ints .i64 32 z1),(32,.ints .i64 16 [0,0,0,0,0,0,0,0,0,0,0,0,0,0,0,0]),(16,.ints .i64 16 p1),(0,.ints .i64 16 p0)])) trivial (Sub.of_eq (by kernel_rfl)) ?_
   intro k1 z1 hk1 hz1 hJ1
   refine Tri.seq ?_
   refine sr [] none [18,7,6,5,4,3,2] [48,32,16,0] (TT∧(TT∧True))
     ([(18,.sc (.b (decide (((k1:Int):Int) < 16)))),(7,qi (k1:Int)),(6,qi (k0:Int)),(5,qp 48 0),(4,qp 32 0),(3,qp 16 0),(2,qp 0 0)],[(48,.ints .i64 32 z1),(32,.ints .i64 16 [0,0,0,0,0,0,0,0,0,0,0,0,0,0,0,0]),(16,.ints .i64 16 p1),(0,.ints .i64 16 p0)])
     160 (⟨tt,⟨tt,trivial⟩⟩) ?_
   refine Tri.cond (x:=(decide (((k1:Int):Int) < 16))) (by kernel_rfl) (fun h2 => ?_) (fun h2 => ?_)
   ·
    have h2':=of_decide_eq_true h2
    refine Tri.skip ?_
    change Tri _ _ _ _ _ _
    refine Tri.seq ?_
    refine Tri.block ?_
    refine rr [(23,.i .i64 ((k0 + k1:Nat):Int))] (some [0,0,3,7,15,0,32,96,0,256,768,2016,4095,8191,16383]) [7,6,5,4,3,2] [48,32,16,0] (TT∧(TT∧((True∧((iAdd .i64 (k0:Int) (k1:Int))=((k0 + k1:Nat):Int)))∧((((0:Int)≤((k0 + k1:Nat):Int)∧((k0 + k1:Nat):Int) < ((32:Nat):Int))∧True)∧(((k0 + k1 < 32)∧True)∧(TT∧((((0:Int)≤(k0:Int)∧(k0:Int) < ((16:Nat):Int))∧True)∧(((k0 < 16)∧True)∧(TT∧((((0:Int)≤(k1:Int)∧(k1:Int) < ((16:Nat):Int))∧True)∧(((k1 < 16)∧True)∧(TT∧(TT∧((((0:Int)≤((k0 + k1:Nat):Int)∧((k0 + k1:Nat):Int) < ((32:Nat):Int))∧True)∧((((k0 + k1 < 32)∧(1=1))∧True)∧True)))))))))))))))
      ([(7,qi (k1:Int)),(6,qi (k0:Int)),(5,qp 48 0),(4,qp 32 0),(3,qp 16 0),(2,qp 0 0)],[(48,.ints .i64 32 (z1.set (k0 + k1) (iAdd .i64 (z1.getD (k0 + k1) 0) (iMul .i64 (p0.getD k0 0) (p1.getD k1 0))))),(32,.ints .i64 16 [0,0,0,0,0,0,0,0,0,0,0,0,0,0,0,0]),(16,.ints .i64 16 p1),(0,.ints .i64 16 p0)])
      400 (⟨tt,⟨tt,⟨⟨trivial,(iAdd_nat (a:=k0) (b:=k1) (by omega))⟩,⟨⟨(by omega),trivial⟩,⟨⟨(by omega),trivial⟩,⟨tt,⟨⟨(by omega),trivial⟩,⟨⟨(by omega),trivial⟩,⟨tt,⟨⟨(by omega),trivial⟩,⟨⟨(by omega),trivial⟩,⟨tt,⟨tt,⟨⟨(by omega),trivial⟩,⟨⟨⟨(by omega),(rfl)⟩,trivial⟩,trivial⟩⟩⟩⟩⟩⟩⟩⟩⟩⟩⟩⟩⟩⟩⟩) ?_
    change Tri _ _ _ _ _ _
    refine rr [(20,.i .i64 ((k1 + 1:Nat):Int))] none [7,6,5,4,3,2] [48,32,16,0] (TT∧((True∧((iAdd .i64 (k1:Int) 1)=((k1 + 1:Nat):Int)))∧(TT∧True)))
      ([(7,qi ((k1 + 1:Nat):Int)),(6,qi (k0:Int)),(5,qp 48 0),(4,qp 32 0),(3,qp 16 0),(2,qp 0 0)],[(48,.ints .i64 32 (z1.set (k0 + k1) (iAdd .i64 (z1.getD (k0 + k1) 0) (iMul .i64 (p0.getD k0 0) (p1.getD k1 0))))),(32,.ints .i64 16 [0,0,0,0,0,0,0,0,0,0,0,0,0,0,0,0]),(16,.ints .i64 16 p1),(0,.ints .i64 16 p0)])
      448 (⟨tt,⟨⟨trivial,(iAdd_nat (a:=k1) (b:=1) (by omega))⟩,⟨tt,trivial⟩⟩⟩) ?_
    refine countP_normal (by omega) trivial ?_
    exact Sub.ren (ns:=[(48,48),(32,32),(16,16),(0,0)]) (kf:=[7,6,5,4,3,2]) (by kernel_rfl) (by kernel_rfl)
   ·
    have h2':=of_decide_eq_false h2
    refine Tri.exit ?_
    have hend1:k1=16:=by (have:=of_decide_eq_false h2; omega)
    subst hend1; subst hz1
    change Tri _ _ _ _ _ _
    refine rr [(16,.i .i64 ((k0 + 1:Nat):Int))] none [6,5,4,3,2] [48,32,16,0] (TT∧((True∧((iAdd .i64 (k0:Int) 1)=((k0 + 1:Nat):Int)))∧(TT∧True)))
      ([(6,qi ((k0 + 1:Nat):Int)),(5,qp 48 0),(4,qp 32 0),(3,qp 16 0),(2,qp 0 0)],[(48,.ints .i64 32 (itr (F21l1 p0 p1 k0) 16 z0)),(32,.ints .i64 16 [0,0,0,0,0,0,0,0,0,0,0,0,0,0,0,0]),(16,.ints .i64 16 p1),(0,.ints .i64 16 p0)])
      208 (⟨tt,⟨⟨trivial,(iAdd_nat (a:=k0) (b:=1) (by omega))⟩,⟨tt,trivial⟩⟩⟩) ?_
    refine countP_normal (by omega) trivial ?_
    exact Sub.ren (ns:=[(48,48),(32,32),(16,16),(0,0)]) (kf:=[6,5,4,3,2]) (by kernel_rfl) (by kernel_rfl)
  ·
   have h1':=of_decide_eq_false h1
   refine Tri.exit ?_
   have hend0:k0=16:=by (have:=of_decide_eq_false h1; omega)
   subst hend0; subst hz0
   change Tri _ _ _ _ _ _
   refine sr [] none [8,5,4] [48,32] (TT∧True)
     ([(8,qi 0),(5,qp 48 0),(4,qp 32 0)],[(48,.ints .i64 32 (itr (F21l0 p0 p1) 16 [0,0,0,0,0,0,0,0,0,0,0,0,0,0,0,0,0,0,0,0,0,0,0,0,0,0,0,0,0,0,0,0])),(32,.ints .i64 16 [0,0,0,0,0,0,0,0,0,0,0,0,0,0,0,0])])
     128 (⟨tt,trivial⟩) ?_
   refine Tri.seq ?_
   refine sr [] none [9,8,5,4] [48,32] (TT∧True)
     ([(9,qi 0),(8,qi 0),(5,qp 48 0),(4,qp 32 0)],[(48,.ints .i64 32 (itr (F21l0 p0 p1) 16 [0,0,0,0,0,0,0,0,0,0,0,0,0,0,0,0,0,0,0,0,0,0,0,0,0,0,0,0,0,0,0,0])),(32,.ints .i64 16 [0,0,0,0,0,0,0,0,0,0,0,0,0,0,0,0])])
     144 (⟨tt,trivial⟩) ?_
   refine Tri.block ?_
   refine Tri.count 144 32 (F21l2) (0,(itr (F21l0 p0 p1) 16 [0,0,0,0,0,0,0,0,0,0,0,0,0,0,0,0,0,0,0,0,0,0,0,0,0,0,0,0,0,0,0,0])) (fun k2 z2 => True) (fun k2 z2 => ([(9,qi (k2:Int)),(8,qi z2.1),(5,qp 48 0),(4,qp 32 0)],[(48,.ints .i64 32 z2.2),(32,.ints .i64 16 [0,0,0,0,0,0,0,0,0,0,0,0,0,0,0,0])])) trivial (Sub.of_eq (by kernel_rfl)) ?_
   intro k2 z2 hk2 hz2 hJ2
   refine Tri.seq ?_
   refine sr [] none [36,9,8,5,4] [48,32] (TT∧(TT∧True))
     ([(36,.sc (.b (decide (((k2:Int):Int) < 32)))),(9,qi (k2:Int)),(8,qi z2.1),(5,qp 48 0),(4,qp 32 0)],[(48,.ints .i64 32 z2.2),(32,.ints .i64 16 [0,0,0,0,0,0,0,0,0,0,0,0,0,0,0,0])])
     176 (⟨tt,⟨tt,trivial⟩⟩) ?_
   refine Tri.cond (x:=(decide (((k2:Int):Int) < 32))) (by kernel_rfl) (fun h3 => ?_) (fun h3 => ?_)
   ·
    have h3':=of_decide_eq_true h3
    refine Tri.skip ?_
    change Tri _ _ _ _ _ _
    refine Tri.seq ?_
    refine Tri.block ?_
    refine sr [] none [10,9,5,4] [48,32] (TT∧((((0:Int)≤(k2:Int)∧(k2:Int) < ((32:Nat):Int))∧True)∧(((k2 < 32)∧True)∧(TT∧(TT∧(TT∧True))))))
      ([(10,qi (iAdd .i64 (z2.2.getD k2 0) z2.1)),(9,qi (k2:Int)),(5,qp 48 0),(4,qp 32 0)],[(48,.ints .i64 32 z2.2),(32,.ints .i64 16 [0,0,0,0,0,0,0,0,0,0,0,0,0,0,0,0])])
      272 (⟨tt,⟨⟨(by omega),trivial⟩,⟨⟨(by omega),trivial⟩,⟨tt,⟨tt,⟨tt,trivial⟩⟩⟩⟩⟩⟩) ?_
    refine sr [] none [8,10,9,5,4] [48,32] (TT∧((((0:Int)≤16)∧True)∧(TT∧True)))
      ([(8,qi (iShr .i64 (iAdd .i64 (z2.2.getD k2 0) z2.1) 16)),(10,qi (iAdd .i64 (z2.2.getD k2 0) z2.1)),(9,qi (k2:Int)),(5,qp 48 0),(4,qp 32 0)],[(48,.ints .i64 32 z2.2),(32,.ints .i64 16 [0,0,0,0,0,0,0,0,0,0,0,0,0,0,0,0])])
      320 (⟨tt,⟨⟨(by omega),trivial⟩,⟨tt,trivial⟩⟩⟩) ?_
    refine rr [] none [8,9,5,4] [48,32] (TT∧(TT∧(TT∧((((0:Int)≤16)∧True)∧(TT∧((((0:Int)≤(k2:Int)∧(k2:Int) < ((32:Nat):Int))∧True)∧((((k2 < 32)∧(1=1))∧True)∧True)))))))
      ([(8,qi (iShr .i64 (iAdd .i64 (z2.2.getD k2 0) z2.1) 16)),(9,qi (k2:Int)),(5,qp 48 0),(4,qp 32 0)],[(48,.ints .i64 32 (z2.2.set k2 (iSub .i64 (iAdd .i64 (z2.2.getD k2 0) z2.1) (iShl .i64 (iShr .i64 (iAdd .i64 (z2.2.getD k2 0) z2.1) 16) 16)))),(32,.ints .i64 16 [0,0,0,0,0,0,0,0,0,0,0,0,0,0,0,0])])
      432 (⟨tt,⟨tt,⟨tt,⟨⟨(by omega),trivial⟩,⟨tt,⟨⟨(by omega),trivial⟩,⟨⟨⟨(by omega),(rfl)⟩,trivial⟩,trivial⟩⟩⟩⟩⟩⟩⟩) ?_
    change Tri _ _ _ _ _ _
    refine rr [(38,.i .i64 ((k2 + 1:Nat):Int))] none [9,8,5,4] [48,32] (TT∧((True∧((iAdd .i64 (k2:Int) 1)=((k2 + 1:Nat):Int)))∧(TT∧True)))
      ([(9,qi ((k2 + 1:Nat):Int)),(8,qi (iShr .i64 (iAdd .i64 (z2.2.getD k2 0) z2.1) 16)),(5,qp 48 0),(4,qp 32 0)],[(48,.ints .i64 32 (z2.2.set k2 (iSub .i64 (iAdd .i64 (z2.2.getD k2 0) z2.1) (iShl .i64 (iShr .i64 (iAdd .i64 (z2.2.getD k2 0) z2.1) 16) 16)))),(32,.ints .i64 16 [0,0,0,0,0,0,0,0,0,0,0,0,0,0,0,0])])
      480 (⟨tt,⟨⟨trivial,(iAdd_nat (a:=k2) (b:=1) (by omega))⟩,⟨tt,trivial⟩⟩⟩) ?_
    refine countP_normal (by omega) trivial ?_
    exact Sub.ren (ns:=[(48,48),(32,32)]) (kf:=[9,8,5,4]) (by kernel_rfl) (by kernel_rfl)
   ·
    have h3':=of_decide_eq_false h3
    refine Tri.exit ?_
    have hend2:k2=32:=by (have:=of_decide_eq_false h3; omega)
    subst hend2; subst hz2
    change Tri _ _ _ _ _ _
    refine sr [] none [11,5,4] [176,48,32] (TT∧True)
      ([(11,qp 176 0),(5,qp 48 0),(4,qp 32 0)],[(176,.ints .i64 16 [0,0,0,0,0,0,0,0,0,0,0,0,0,0,0,0]),(48,.ints .i64 32 ((itr (F21l2) 32 (0,(itr (F21l0 p0 p1) 16 [0,0,0,0,0,0,0,0,0,0,0,0,0,0,0,0,0,0,0,0,0,0,0,0,0,0,0,0,0,0,0,0]))).2)),(32,.ints .i64 16 [0,0,0,0,0,0,0,0,0,0,0,0,0,0,0,0])])
      192 (⟨tt,trivial⟩) ?_
    refine Tri.seq ?_
    refine sr [] none [12,11,5,4] [176,48,32] (TT∧True)
      ([(12,qi 0),(11,qp 176 0),(5,qp 48 0),(4,qp 32 0)],[(176,.ints .i64 16 [0,0,0,0,0,0,0,0,0,0,0,0,0,0,0,0]),(48,.ints .i64 32 ((itr (F21l2) 32 (0,(itr (F21l0 p0 p1) 16 [0,0,0,0,0,0,0,0,0,0,0,0,0,0,0,0,0,0,0,0,0,0,0,0,0,0,0,0,0,0,0,0]))).2)),(32,.ints .i64 16 [0,0,0,0,0,0,0,0,0,0,0,0,0,0,0,0])])
      208 (⟨tt,trivial⟩) ?_
    refine Tri.block ?_
    refine Tri.count 208 16 (F21l3 p0 p1) [0,0,0,0,0,0,0,0,0,0,0,0,0,0,0,0] (fun k3 z3 => True) (fun k3 z3 => ([(12,qi (k3:Int)),(11,qp 176 0),(5,qp 48 0),(4,qp 32 0)],[(176,.ints .i64 16 z3),(48,.ints .i64 32 ((itr (F21l2) 32 (0,(itr (F21l0 p0 p1) 16 [0,0,0,0,0,0,0,0,0,0,0,0,0,0,0,0,0,0,0,0,0,0,0,0,0,0,0,0,0,0,0,0]))).2)),(32,.ints .i64 16 [0,0,0,0,0,0,0,0,0,0,0,0,0,0,0,0])])) trivial (Sub.of_eq (by kernel_rfl)) ?_
    intro k3 z3 hk3 hz3 hJ3
    refine Tri.seq ?_
    refine sr [] none [53,12,11,5,4] [176,48,32] (TT∧(TT∧True))
      ([(53,.sc (.b (decide (((k3:Int):Int) < 16)))),(12,qi (k3:Int)),(11,qp 176 0),(5,qp 48 0),(4,qp 32 0)],[(176,.ints .i64 16 z3),(48,.ints .i64 32 ((itr (F21l2) 32 (0,(itr (F21l0 p0 p1) 16 [0,0,0,0,0,0,0,0,0,0,0,0,0,0,0,0,0,0,0,0,0,0,0,0,0,0,0,0,0,0,0,0]))).2)),(32,.ints .i64 16 [0,0,0,0,0,0,0,0,0,0,0,0,0,0,0,0])])
      240 (⟨tt,⟨tt,trivial⟩⟩) ?_
    refine Tri.cond (x:=(decide (((k3:Int):Int) < 16))) (by kernel_rfl) (fun h4 => ?_) (fun h4 => ?_)
    ·
     have h4':=of_decide_eq_true h4
     refine Tri.skip ?_
     change Tri _ _ _ _ _ _
     refine Tri.seq ?_
     refine Tri.block ?_
     refine rr [(61,.i .i64 ((k3 + 16:Nat):Int))] (some [0,0,2,6,0,16,48,112,240,510,1023,2047]) [12,11,5,4] [176,48,32] (TT∧(TT∧((((0:Int)≤(k3:Int)∧(k3:Int) < ((32:Nat):Int))∧True)∧(((k3 < 32)∧True)∧(TT∧((True∧((iAdd .i64 (k3:Int) 16)=((k3 + 16:Nat):Int)))∧((((0:Int)≤((k3 + 16:Nat):Int)∧((k3 + 16:Nat):Int) < ((32:Nat):Int))∧True)∧(((k3 + 16 < 32)∧True)∧(TT∧(TT∧((((0:Int)≤(k3:Int)∧(k3:Int) < ((16:Nat):Int))∧True)∧((((k3 < 16)∧(1=1))∧True)∧True))))))))))))
       ([(12,qi (k3:Int)),(11,qp 176 0),(5,qp 48 0),(4,qp 32 0)],[(176,.ints .i64 16 (z3.set k3 (iAdd .i64 (((itr (F21l2) 32 (0,(itr (F21l0 p0 p1) 16 [0,0,0,0,0,0,0,0,0,0,0,0,0,0,0,0,0,0,0,0,0,0,0,0,0,0,0,0,0,0,0,0]))).2).getD k3 0) (iMul .i64 38 (((itr (F21l2) 32 (0,(itr (F21l0 p0 p1) 16 [0,0,0,0,0,0,0,0,0,0,0,0,0,0,0,0,0,0,0,0,0,0,0,0,0,0,0,0,0,0,0,0]))).2).getD (k3 + 16) 0))))),(48,.ints .i64 32 ((itr (F21l2) 32 (0,(itr (F21l0 p0 p1) 16 [0,0,0,0,0,0,0,0,0,0,0,0,0,0,0,0,0,0,0,0,0,0,0,0,0,0,0,0,0,0,0,0]))).2)),(32,.ints .i64 16 [0,0,0,0,0,0,0,0,0,0,0,0,0,0,0,0])])
       432 (⟨tt,⟨tt,⟨⟨(by omega),trivial⟩,⟨⟨(by omega),trivial⟩,⟨tt,⟨⟨trivial,(iAdd_nat (a:=k3) (b:=16) (by omega))⟩,⟨⟨(by omega),trivial⟩,⟨⟨(by omega),trivial⟩,⟨tt,⟨tt,⟨⟨(by omega),trivial⟩,⟨⟨⟨(by omega),(rfl)⟩,trivial⟩,trivial⟩⟩⟩⟩⟩⟩⟩⟩⟩⟩⟩⟩) ?_
     change Tri _ _ _ _ _ _
     refine rr [(55,.i .i64 ((k3 + 1:Nat):Int))] none [12,11,5,4] [176,48,32] (TT∧((True∧((iAdd .i64 (k3:Int) 1)=((k3 + 1:Nat):Int)))∧(TT∧True)))
       ([(12,qi ((k3 + 1:Nat):Int)),(11,qp 176 0),(5,qp 48 0),(4,qp 32 0)],[(176,.ints .i64 16 (z3.set k3 (iAdd .i64 (((itr (F21l2) 32 (0,(itr (F21l0 p0 p1) 16 [0,0,0,0,0,0,0,0,0,0,0,0,0,0,0,0,0,0,0,0,0,0,0,0,0,0,0,0,0,0,0,0]))).2).getD k3 0) (iMul .i64 38 (((itr (F21l2) 32 (0,(itr (F21l0 p0 p1) 16 [0,0,0,0,0,0,0,0,0,0,0,0,0,0,0,0,0,0,0,0,0,0,0,0,0,0,0,0,0,0,0,0]))).2).getD (k3 + 16) 0))))),(48,.ints .i64 32 ((itr (F21l2) 32 (0,(itr (F21l0 p0 p1) 16 [0,0,0,0,0,0,0,0,0,0,0,0,0,0,0,0,0,0,0,0,0,0,0,0,0,0,0,0,0,0,0,0]))).2)),(32,.ints .i64 16 [0,0,0,0,0,0,0,0,0,0,0,0,0,0,0,0])])
       480 (⟨tt,⟨⟨trivial,(iAdd_nat (a:=k3) (b:=1) (by omega))⟩,⟨tt,trivial⟩⟩⟩) ?_
     refine countP_normal (by omega) trivial ?_
     exact Sub.ren (ns:=[(176,176),(48,48),(32,32)]) (kf:=[12,11,5,4]) (by kernel_rfl) (by kernel_rfl)
    ·
     have h4':=of_decide_eq_false h4
     refine Tri.exit ?_
     have hend3:k3=16:=by (have:=of_decide_eq_false h4; omega)
     subst hend3; subst hz3
     change Tri _ _ _ _ _ _
     refine sr [] none [4] [32] (TT∧((TT∧True)∧(((True∧(16=16))∧True)∧True)))
       ([(4,qp 32 0)],[(32,.ints .i64 16 (F46 (itr (F21l3 p0 p1) 16 [0,0,0,0,0,0,0,0,0,0,0,0,0,0,0,0])))])
       288 (⟨tt,⟨⟨tt,trivial⟩,⟨⟨⟨trivial,(rfl)⟩,trivial⟩,trivial⟩⟩⟩) ?_
     refine Tri.ret ?_
     exact endP.ret [] TT (by kernel_rfl) (by kernel_rfl) (by kernel_rfl) tt
noncomputable def F24l0 (p0:List Int) (k0:Nat) (z0:List Int):List Int :=
 z0.set k0 (iAdd .i64 (IntKind.wrap .i64 (p0.getD (2 * k0) 0)) (iMul .i64 256 (IntKind.wrap .i64 (p0.getD ((2 * k0) + 1) 0))))
noncomputable def F24 (p0:List Int):List Int :=
 (F46 ((itr (F24l0 p0) 16 [0,0,0,0,0,0,0,0,0,0,0,0,0,0,0,0]).set 15 (iRem ((itr (F24l0 p0) 16 [0,0,0,0,0,0,0,0,0,0,0,0,0,0,0,0]).getD 15 0) 32768)))
noncomputable def S24:List AV→Option (Prop × Ret)
 | [.sc (.ro .u8 p0)] => some (p0.length=32,⟨.ints .i64 16 (F24 p0),[]⟩)
 | _ => none
noncomputable def B24:Bs:={ P:=Go.Proofs.Tryd.prog,G:=gD,tab:=tabOf [(79,⟨[.val],0,S46⟩)],n:=32 }
theorem B24.ok:B24.Ok:=⟨tabOk (P:=Go.Proofs.Tryd.prog) (G:=gD) (l:=[(79,⟨[.val],0,S46⟩)]) (And.intro K46 True.intro),mixed⟩
theorem K24:Known Go.Proofs.Tryd.prog gD 66 ⟨[.ro .u8],0,S24⟩:=by
 refine Known.walk (B:=B24) (fn:=Go.Proofs.Tryd.f66) B24.ok (by kernel_rfl) rfl (by kernel_rfl) (by kernel_rfl) (by decide) ?_ ?_
 ·intro vs C r h
  simp only at h
  unfold S24 at h
  split at h
  ·cases h; rfl
  ·cases h
 ·intro E args C r h hC hlen
  simp only at h
  unfold S24 at h
  split at h
  rotate_left
  ·cases h
  rename_i p0
  cases h
  simp only [lens] at hlen
  refine ⟨show 1≤32 from by decide,?_⟩
  refine Tri.sub (Sub.of_eq (show _=([(0,qr p0)],[]) from rfl)) ?_
  refine sr [] none [2,0] [0] (TT∧True)
    ([(2,qp 0 0),(0,qr p0)],[(0,.ints .i64 16 [0,0,0,0,0,0,0,0,0,0,0,0,0,0,0,0])])
    16 (⟨tt,trivial⟩) ?_
  refine sr [] none [3,2,0] [16,0] (TT∧True)
    ([(3,qp 16 0),(2,qp 0 0),(0,qr p0)],[(16,.ints .i64 16 [0,0,0,0,0,0,0,0,0,0,0,0,0,0,0,0]),(0,.ints .i64 16 [0,0,0,0,0,0,0,0,0,0,0,0,0,0,0,0])])
    32 (⟨tt,trivial⟩) ?_
  refine Tri.seq ?_
  refine sr [] none [4,3,2,0] [16,0] (TT∧True)
    ([(4,qi 0),(3,qp 16 0),(2,qp 0 0),(0,qr p0)],[(16,.ints .i64 16 [0,0,0,0,0,0,0,0,0,0,0,0,0,0,0,0]),(0,.ints .i64 16 [0,0,0,0,0,0,0,0,0,0,0,0,0,0,0,0])])
    48 (⟨tt,trivial⟩) ?_
  refine Tri.block ?_
  refine Tri.count 48 16 (F24l0 p0) [0,0,0,0,0,0,0,0,0,0,0,0,0,0,0,0] (fun k0 z0 => True) (fun k0 z0 => ([(4,qi (k0:Int)),(3,qp 16 0),(2,qp 0 0),(0,qr p0)],[(16,.ints .i64 16 z0),(0,.ints .i64 16 [0,0,0,0,0,0,0,0,0,0,0,0,0,0,0,0])])) trivial (Sub.of_eq (by kernel_rfl)) ?_
  intro k0 z0 hk0 hz0 hJ0
  refine Tri.seq ?_
  refine sr [] none [6,4,3,2,0] [16,0] (TT∧(TT∧True))
    ([(6,.sc (.b (decide (((k0:Int):Int) < 16)))),(4,qi (k0:Int)),(3,qp 16 0),(2,qp 0 0),(0,qr p0)],[(16,.ints .i64 16 z0),(0,.ints .i64 16 [0,0,0,0,0,0,0,0,0,0,0,0,0,0,0,0])])
    80 (⟨tt,⟨tt,trivial⟩⟩) ?_
  refine Tri.cond (x:=(decide (((k0:Int):Int) < 16))) (by kernel_rfl) (fun h1 => ?_) (fun h1 => ?_)
  ·
   have h1':=of_decide_eq_true h1
   refine Tri.skip ?_
   change Tri _ _ _ _ _ _
   refine Tri.seq ?_
   refine Tri.block ?_
   refine rr [(12,.i .i64 ((2 * k0:Nat):Int)),(18,.i .i64 ((2 * k0:Nat):Int)),(19,.i .i64 (((2 * k0) + 1:Nat):Int))] (some [0,0,0,4,14,30,62,0,0,256,768,1920,3968,8064,16256,32766,65535,131071]) [4,3,2,0] [16,0] (TT∧(TT∧(TT∧((True∧((iMul .i64 2 (k0:Int))=((2 * k0:Nat):Int)))∧((((0:Int)≤((2 * k0:Nat):Int)∧((2 * k0:Nat):Int) < (p0.length:Int))∧True)∧(((2 * k0 < p0.length)∧True)∧(TT∧(TT∧(TT∧((True∧((iMul .i64 2 (k0:Int))=((2 * k0:Nat):Int)))∧((True∧((iAdd .i64 ((2 * k0:Nat):Int) 1)=(((2 * k0) + 1:Nat):Int)))∧((((0:Int)≤(((2 * k0) + 1:Nat):Int)∧(((2 * k0) + 1:Nat):Int) < (p0.length:Int))∧True)∧((((2 * k0) + 1 < p0.length)∧True)∧(TT∧(TT∧(TT∧((((0:Int)≤(k0:Int)∧(k0:Int) < ((16:Nat):Int))∧True)∧((((k0 < 16)∧(1=1))∧True)∧True))))))))))))))))))
     ([(4,qi (k0:Int)),(3,qp 16 0),(2,qp 0 0),(0,qr p0)],[(16,.ints .i64 16 (z0.set k0 (iAdd .i64 (IntKind.wrap .i64 (p0.getD (2 * k0) 0)) (iMul .i64 256 (IntKind.wrap .i64 (p0.getD ((2 * k0) + 1) 0)))))),(0,.ints .i64 16 [0,0,0,0,0,0,0,0,0,0,0,0,0,0,0,0])])
     368 (⟨tt,⟨tt,⟨tt,⟨⟨trivial,(iMul_nat (a:=2) (b:=k0) (by omega))⟩,⟨⟨(by omega),trivial⟩,⟨⟨(by omega),trivial⟩,⟨tt,⟨tt,⟨tt,⟨⟨trivial,(iMul_nat (a:=2) (b:=k0) (by omega))⟩,⟨⟨trivial,(iAdd_nat (a:=2 * k0) (b:=1) (by omega))⟩,⟨⟨(by omega),trivial⟩,⟨⟨(by omega),trivial⟩,⟨tt,⟨tt,⟨tt,⟨⟨(by omega),trivial⟩,⟨⟨⟨(by omega),(rfl)⟩,trivial⟩,trivial⟩⟩⟩⟩⟩⟩⟩⟩⟩⟩⟩⟩⟩⟩⟩⟩⟩⟩) ?_
   change Tri _ _ _ _ _ _
   refine rr [(8,.i .i64 ((k0 + 1:Nat):Int))] none [4,3,2,0] [16,0] (TT∧((True∧((iAdd .i64 (k0:Int) 1)=((k0 + 1:Nat):Int)))∧(TT∧True)))
     ([(4,qi ((k0 + 1:Nat):Int)),(3,qp 16 0),(2,qp 0 0),(0,qr p0)],[(16,.ints .i64 16 (z0.set k0 (iAdd .i64 (IntKind.wrap .i64 (p0.getD (2 * k0) 0)) (iMul .i64 256 (IntKind.wrap .i64 (p0.getD ((2 * k0) + 1) 0)))))),(0,.ints .i64 16 [0,0,0,0,0,0,0,0,0,0,0,0,0,0,0,0])])
     416 (⟨tt,⟨⟨trivial,(iAdd_nat (a:=k0) (b:=1) (by omega))⟩,⟨tt,trivial⟩⟩⟩) ?_
   refine countP_normal (by omega) trivial ?_
   exact Sub.ren (ns:=[(16,16),(0,0)]) (kf:=[4,3,2,0]) (by kernel_rfl) (by kernel_rfl)
  ·
   have h1':=of_decide_eq_false h1
   refine Tri.exit ?_
   have hend0:k0=16:=by (have:=of_decide_eq_false h1; omega)
   subst hend0; subst hz0
   change Tri _ _ _ _ _ _
   refine sr [] none [3,2] [16,0] ((((0:Int)≤15∧15 < ((16:Nat):Int))∧True)∧(((15 < 16)∧True)∧(((32768 ≠ (0:Int))∧True)∧((((0:Int)≤15∧15 < ((16:Nat):Int))∧True)∧((((15 < 16)∧(1=1))∧True)∧True)))))
     ([(3,qp 16 0),(2,qp 0 0)],[(16,.ints .i64 16 ((itr (F24l0 p0) 16 [0,0,0,0,0,0,0,0,0,0,0,0,0,0,0,0]).set 15 (iRem ((itr (F24l0 p0) 16 [0,0,0,0,0,0,0,0,0,0,0,0,0,0,0,0]).getD 15 0) 32768))),(0,.ints .i64 16 [0,0,0,0,0,0,0,0,0,0,0,0,0,0,0,0])])
     160 (⟨⟨(by omega),trivial⟩,⟨⟨(by omega),trivial⟩,⟨⟨(by omega),trivial⟩,⟨⟨(by omega),trivial⟩,⟨⟨⟨(by omega),(rfl)⟩,trivial⟩,trivial⟩⟩⟩⟩⟩) ?_
   refine sr [] none [2] [0] (TT∧((TT∧True)∧(((True∧(16=16))∧True)∧True)))
     ([(2,qp 0 0)],[(0,.ints .i64 16 (F46 ((itr (F24l0 p0) 16 [0,0,0,0,0,0,0,0,0,0,0,0,0,0,0,0]).set 15 (iRem ((itr (F24l0 p0) 16 [0,0,0,0,0,0,0,0,0,0,0,0,0,0,0,0]).getD 15 0) 32768))))])
     208 (⟨tt,⟨⟨tt,trivial⟩,⟨⟨⟨trivial,(rfl)⟩,trivial⟩,trivial⟩⟩⟩) ?_
   refine Tri.ret ?_
   exact endP.ret [] TT (by kernel_rfl) (by kernel_rfl) (by kernel_rfl) tt
noncomputable def F31 (p0:Int):List Int :=
 (F46 [p0,0,0,0,0,0,0,0,0,0,0,0,0,0,0,0])
noncomputable def S31:List AV→Option (Prop × Ret)
 | [.sc (.i .i64 p0)] => some (True,⟨.ints .i64 16 (F31 p0),[]⟩)
 | _ => none
noncomputable def B31:Bs:={ P:=Go.Proofs.Tryd.prog,G:=gD,tab:=tabOf [(79,⟨[.val],0,S46⟩)],n:=6 }
theorem B31.ok:B31.Ok:=⟨tabOk (P:=Go.Proofs.Tryd.prog) (G:=gD) (l:=[(79,⟨[.val],0,S46⟩)]) (And.intro K46 True.intro),mixed⟩
theorem K31:Known Go.Proofs.Tryd.prog gD 70 ⟨[.val],0,S31⟩:=by
 refine Known.walk (B:=B31) (fn:=Go.Proofs.Tryd.f70) B31.ok (by kernel_rfl) rfl (by kernel_rfl) (by kernel_rfl) (by decide) ?_ ?_
 ·intro vs C r h
  simp only at h
  unfold S31 at h
  split at h
  ·cases h; rfl
  ·cases h
 ·intro E args C r h hC hlen
  simp only at h
  unfold S31 at h
  split at h
  rotate_left
  ·cases h
  rename_i p0
  cases h
  simp only [lens] at hlen
  refine ⟨show 1≤6 from by decide,?_⟩
  refine Tri.sub (Sub.of_eq (show _=([(0,qi p0)],[]) from rfl)) ?_
  refine sr [] none [2,0] [0] (TT∧True)
    ([(2,qp 0 0),(0,qi p0)],[(0,.ints .i64 16 [0,0,0,0,0,0,0,0,0,0,0,0,0,0,0,0])])
    16 (⟨tt,trivial⟩) ?_
  refine sr [] none [2] [0] (TT∧(((((0 < 16)∧(1=1))∧True)∧True)∧((TT∧True)∧(((True∧(16=16))∧True)∧True))))
    ([(2,qp 0 0)],[(0,.ints .i64 16 (F46 [p0,0,0,0,0,0,0,0,0,0,0,0,0,0,0,0]))])
    80 (⟨tt,⟨⟨⟨⟨(by omega),(rfl)⟩,trivial⟩,trivial⟩,⟨⟨tt,trivial⟩,⟨⟨⟨trivial,(rfl)⟩,trivial⟩,trivial⟩⟩⟩⟩) ?_
  refine Tri.ret ?_
  exact endP.ret [] TT (by kernel_rfl) (by kernel_rfl) (by kernel_rfl) tt
noncomputable def F27l1 (p1:List Int) (k0:Nat) (k1:Nat) (z1:List Int × List Int):List Int × List Int :=
 ((sel (((iRem (iShr .u8 (p1.getD k0 0) (k1:Int)) 2):Int) == 1) (F21 z1.1 z1.2) z1.1),(F21 z1.2 z1.2))
noncomputable def F27l0 (p1:List Int) (k0:Nat) (z0:List Int × List Int):List Int × List Int :=
 ((itr (F27l1 p1 k0) 8 (z0.1,z0.2)).1,(itr (F27l1 p1 k0) 8 (z0.1,z0.2)).2)
noncomputable def F27 (p0:List Int) (p1:List Int):List Int :=
 (itr (F27l0 p1) (p1.length - 0) ((F31 1),p0)).1
noncomputable def S27:List AV→Option (Prop × Ret)
 | [.ints .i64 16 p0,.sc (.ro .u8 p1)] => some (p1.length≤1000000,⟨.ints .i64 16 (F27 p0 p1),[]⟩)
 | _ => none
noncomputable def B27:Bs:={ P:=Go.Proofs.Tryd.prog,G:=gD,tab:=tabOf [(70,⟨[.val],0,S31⟩),(77,⟨[.val,.val],0,S21⟩)],n:=34 }
theorem B27.ok:B27.Ok:=⟨tabOk (P:=Go.Proofs.Tryd.prog) (G:=gD) (l:=[(70,⟨[.val],0,S31⟩),(77,⟨[.val,.val],0,S21⟩)]) (And.intro K31 (And.intro K21 True.intro)),mixed⟩
theorem K27:Known Go.Proofs.Tryd.prog gD 75 ⟨[.val,.ro .u8],0,S27⟩:=by
 refine Known.walk (B:=B27) (fn:=Go.Proofs.Tryd.f75) B27.ok (by kernel_rfl) rfl (by kernel_rfl) (by kernel_rfl) (by decide) ?_ ?_
 ·intro vs C r h
  simp only at h
  unfold S27 at h
  split at h
  ·cases h; rfl
  ·cases h
 ·intro E args C r h hC hlen
  simp only at h
  unfold S27 at h
  split at h
  rotate_left
  ·cases h
  rename_i p0 p1
  cases h
  simp only [lens] at hlen
  refine ⟨show 2≤34 from by decide,?_⟩
  refine Tri.sub (Sub.of_eq (show _=([(0,.ints .i64 16 p0),(1,qr p1)],[]) from rfl)) ?_
  refine sr [] none [4,2,1] [16,0] (TT∧(TT∧True))
    ([(4,qp 16 0),(2,qp 0 0),(1,qr p1)],[(16,.ints .i64 16 [0,0,0,0,0,0,0,0,0,0,0,0,0,0,0,0]),(0,.ints .i64 16 p0)])
    32 (⟨tt,⟨tt,trivial⟩⟩) ?_
  refine sr [] none [5,4,2,1] [48,16,0] ((TT∧True)∧(TT∧(((True∧(16=16))∧True)∧True)))
    ([(5,qp 48 0),(4,qp 16 0),(2,qp 0 0),(1,qr p1)],[(48,.ints .i64 16 (F31 1)),(16,.ints .i64 16 [0,0,0,0,0,0,0,0,0,0,0,0,0,0,0,0]),(0,.ints .i64 16 p0)])
    80 (⟨⟨tt,trivial⟩,⟨tt,⟨⟨⟨trivial,(rfl)⟩,trivial⟩,trivial⟩⟩⟩) ?_
  refine Tri.seq ?_
  refine sr [] none [6,5,4,2,1] [48,16,0] (TT∧True)
    ([(6,qi 0),(5,qp 48 0),(4,qp 16 0),(2,qp 0 0),(1,qr p1)],[(48,.ints .i64 16 (F31 1)),(16,.ints .i64 16 [0,0,0,0,0,0,0,0,0,0,0,0,0,0,0,0]),(0,.ints .i64 16 p0)])
    96 (⟨tt,trivial⟩) ?_
  refine Tri.block ?_
  refine Tri.count 96 (p1.length - 0) (F27l0 p1) ((F31 1),p0) (fun k0 z0 => True) (fun k0 z0 => ([(6,qi (k0:Int)),(5,qp 48 0),(4,qp 16 0),(2,qp 0 0),(1,qr p1)],[(48,.ints .i64 16 z0.1),(16,.ints .i64 16 [0,0,0,0,0,0,0,0,0,0,0,0,0,0,0,0]),(0,.ints .i64 16 z0.2)])) trivial (Sub.of_eq (by kernel_rfl)) ?_
  intro k0 z0 hk0 hz0 hJ0
  refine Tri.seq ?_
  refine sr [] none [12,6,5,4,2,1] [48,16,0] (TT∧(TT∧(TT∧(TT∧True))))
    ([(12,.sc (.b (decide (((k0:Int):Int) < (p1.length:Int))))),(6,qi (k0:Int)),(5,qp 48 0),(4,qp 16 0),(2,qp 0 0),(1,qr p1)],[(48,.ints .i64 16 z0.1),(16,.ints .i64 16 [0,0,0,0,0,0,0,0,0,0,0,0,0,0,0,0]),(0,.ints .i64 16 z0.2)])
    160 (⟨tt,⟨tt,⟨tt,⟨tt,trivial⟩⟩⟩⟩) ?_
  refine Tri.cond (x:=(decide (((k0:Int):Int) < (p1.length:Int)))) (by kernel_rfl) (fun h1 => ?_) (fun h1 => ?_)
  ·
   have h1':=of_decide_eq_true h1
   refine Tri.skip ?_
   change Tri _ _ _ _ _ _
   refine Tri.seq ?_
   refine Tri.block ?_
   refine sr [] none [7,6,5,4,2,1] [48,16,0] (TT∧True)
     ([(7,qi 0),(6,qi (k0:Int)),(5,qp 48 0),(4,qp 16 0),(2,qp 0 0),(1,qr p1)],[(48,.ints .i64 16 z0.1),(16,.ints .i64 16 [0,0,0,0,0,0,0,0,0,0,0,0,0,0,0,0]),(0,.ints .i64 16 z0.2)])
     176 (⟨tt,trivial⟩) ?_
   refine Tri.block ?_
   refine Tri.count 176 8 (F27l1 p1 k0) (z0.1,z0.2) (fun k1 z1 => True) (fun k1 z1 => ([(7,qi (k1:Int)),(6,qi (k0:Int)),(5,qp 48 0),(4,qp 16 0),(2,qp 0 0),(1,qr p1)],[(48,.ints .i64 16 z1.1),(16,.ints .i64 16 [0,0,0,0,0,0,0,0,0,0,0,0,0,0,0,0]),(0,.ints .i64 16 z1.2)])) trivial (Sub.of_eq (by kernel_rfl)) ?_
   intro k1 z1 hk1 hz1 hJ1
   refine Tri.seq ?_
   refine sr [] none [16,7,6,5,4,2,1] [48,16,0] (TT∧(TT∧True))
     ([(16,.sc (.b (decide (((k1:Int):Int) < 8)))),(7,qi (k1:Int)),(6,qi (k0:Int)),(5,qp 48 0),(4,qp 16 0),(2,qp 0 0),(1,qr p1)],[(48,.ints .i64 16 z1.1),(16,.ints .i64 16 [0,0,0,0,0,0,0,0,0,0,0,0,0,0,0,0]),(0,.ints .i64 16 z1.2)])
     208 (⟨tt,⟨tt,trivial⟩⟩) ?_
   refine Tri.cond (x:=(decide (((k1:Int):Int) < 8))) (by kernel_rfl) (fun h2 => ?_) (fun h2 => ?_)
   ·
    have h2':=of_decide_eq_true h2
    refine Tri.skip ?_
    change Tri _ _ _ _ _ _
    refine Tri.seq ?_
    refine Tri.block ?_
    refine Tri.seq ?_
    refine sr [] none [26,7,6,5,4,2,1] [48,16,0] (TT∧(TT∧((((0:Int)≤(k0:Int)∧(k0:Int) < (p1.length:Int))∧True)∧(((k0 < p1.length)∧True)∧(TT∧((((0:Int)≤(k1:Int))∧True)∧(((2 ≠ (0:Int))∧True)∧(TT∧True))))))))
      ([(26,.sc (.b (((iRem (iShr .u8 (p1.getD k0 0) (k1:Int)) 2):Int) == 1))),(7,qi (k1:Int)),(6,qi (k0:Int)),(5,qp 48 0),(4,qp 16 0),(2,qp 0 0),(1,qr p1)],[(48,.ints .i64 16 z1.1),(16,.ints .i64 16 [0,0,0,0,0,0,0,0,0,0,0,0,0,0,0,0]),(0,.ints .i64 16 z1.2)])
      336 (⟨tt,⟨tt,⟨⟨(by omega),trivial⟩,⟨⟨(by omega),trivial⟩,⟨tt,⟨⟨(by omega),trivial⟩,⟨⟨(by omega),trivial⟩,⟨tt,trivial⟩⟩⟩⟩⟩⟩⟩⟩) ?_
    refine Tri.join (x:=(((iRem (iShr .u8 (p1.getD k0 0) (k1:Int)) 2):Int) == 1)) (fun bb => ([(7,qi (k1:Int)),(6,qi (k0:Int)),(5,qp 48 0),(4,qp 16 0),(2,qp 0 0),(1,qr p1)],[(48,.ints .i64 16 (sel bb (F21 z1.1 z1.2) z1.1)),(16,.ints .i64 16 [0,0,0,0,0,0,0,0,0,0,0,0,0,0,0,0]),(0,.ints .i64 16 z1.2)])) 400 (by kernel_rfl) (fun h3 => ?_) (fun h3 => ?_) ?_
    ·
     have h3':=eq_true_i h3
     refine rr [] none [7,6,5,4,2,1] [48,16,0] (TT∧(TT∧((TT∧True)∧(((True∧(16=16))∧True)∧True))))
       ([(7,qi (k1:Int)),(6,qi (k0:Int)),(5,qp 48 0),(4,qp 16 0),(2,qp 0 0),(1,qr p1)],[(48,.ints .i64 16 (F21 z1.1 z1.2)),(16,.ints .i64 16 [0,0,0,0,0,0,0,0,0,0,0,0,0,0,0,0]),(0,.ints .i64 16 z1.2)])
       400 (⟨tt,⟨tt,⟨⟨tt,trivial⟩,⟨⟨⟨trivial,(rfl)⟩,trivial⟩,trivial⟩⟩⟩⟩) ?_
     exact (Sub.ren (ns:=[(48,48),(16,16),(0,0)]) (kf:=[7,6,5,4,2,1]) (s':=([(7,qi (k1:Int)),(6,qi (k0:Int)),(5,qp 48 0),(4,qp 16 0),(2,qp 0 0),(1,qr p1)],[(48,.ints .i64 16 (F21 z1.1 z1.2)),(16,.ints .i64 16 [0,0,0,0,0,0,0,0,0,0,0,0,0,0,0,0]),(0,.ints .i64 16 z1.2)])) (by kernel_rfl) (by kernel_rfl)).trans (Sub.of_eq (by simp only [sel_true,sel_false]))
    ·
     have h3':=eq_false_i h3
     refine Tri.skip ?_
     exact (Sub.ren (ns:=[(48,48),(16,16),(0,0)]) (kf:=[7,6,5,4,2,1]) (s':=([(7,qi (k1:Int)),(6,qi (k0:Int)),(5,qp 48 0),(4,qp 16 0),(2,qp 0 0),(1,qr p1)],[(48,.ints .i64 16 z1.1),(16,.ints .i64 16 [0,0,0,0,0,0,0,0,0,0,0,0,0,0,0,0]),(0,.ints .i64 16 z1.2)])) (by kernel_rfl) (by kernel_rfl)).trans (Sub.of_eq (by simp only [sel_true,sel_false]))
    ·
     change Tri _ _ _ _ _ _
     refine rr [] none [7,6,5,4,2,1] [0,48,16] (TT∧(TT∧((TT∧True)∧(((True∧(16=16))∧True)∧True))))
       ([(7,qi (k1:Int)),(6,qi (k0:Int)),(5,qp 48 0),(4,qp 16 0),(2,qp 0 0),(1,qr p1)],[(0,.ints .i64 16 (F21 z1.2 z1.2)),(48,.ints .i64 16 (sel (((iRem (iShr .u8 (p1.getD k0 0) (k1:Int)) 2):Int) == 1) (F21 z1.1 z1.2) z1.1)),(16,.ints .i64 16 [0,0,0,0,0,0,0,0,0,0,0,0,0,0,0,0])])
       464 (⟨tt,⟨tt,⟨⟨tt,trivial⟩,⟨⟨⟨trivial,(rfl)⟩,trivial⟩,trivial⟩⟩⟩⟩) ?_
     change Tri _ _ _ _ _ _
     refine rr [(18,.i .i64 ((k1 + 1:Nat):Int))] none [7,6,5,4,2,1] [0,48,16] (TT∧((True∧((iAdd .i64 (k1:Int) 1)=((k1 + 1:Nat):Int)))∧(TT∧True)))
       ([(7,qi ((k1 + 1:Nat):Int)),(6,qi (k0:Int)),(5,qp 48 0),(4,qp 16 0),(2,qp 0 0),(1,qr p1)],[(0,.ints .i64 16 (F21 z1.2 z1.2)),(48,.ints .i64 16 (sel (((iRem (iShr .u8 (p1.getD k0 0) (k1:Int)) 2):Int) == 1) (F21 z1.1 z1.2) z1.1)),(16,.ints .i64 16 [0,0,0,0,0,0,0,0,0,0,0,0,0,0,0,0])])
       512 (⟨tt,⟨⟨trivial,(iAdd_nat (a:=k1) (b:=1) (by omega))⟩,⟨tt,trivial⟩⟩⟩) ?_
     refine countP_normal (by omega) trivial ?_
     exact Sub.ren (ns:=[(48,48),(16,16),(0,0)]) (kf:=[7,6,5,4,2,1]) (by kernel_rfl) (by kernel_rfl)
   ·
    have h2':=of_decide_eq_false h2
    refine Tri.exit ?_
    have hend1:k1=8:=by (have:=of_decide_eq_false h2; omega)
    subst hend1; subst hz1
    change Tri _ _ _ _ _ _
    refine rr [(14,.i .i64 ((k0 + 1:Nat):Int))] none [6,5,4,2,1] [48,16,0] (TT∧((True∧((iAdd .i64 (k0:Int) 1)=((k0 + 1:Nat):Int)))∧(TT∧True)))
      ([(6,qi ((k0 + 1:Nat):Int)),(5,qp 48 0),(4,qp 16 0),(2,qp 0 0),(1,qr p1)],[(48,.ints .i64 16 ((itr (F27l1 p1 k0) 8 (z0.1,z0.2)).1)),(16,.ints .i64 16 [0,0,0,0,0,0,0,0,0,0,0,0,0,0,0,0]),(0,.ints .i64 16 ((itr (F27l1 p1 k0) 8 (z0.1,z0.2)).2))])
      256 (⟨tt,⟨⟨trivial,(iAdd_nat (a:=k0) (b:=1) (by omega))⟩,⟨tt,trivial⟩⟩⟩) ?_
    refine countP_normal (by omega) trivial ?_
    exact Sub.ren (ns:=[(48,48),(16,16),(0,0)]) (kf:=[6,5,4,2,1]) (by kernel_rfl) (by kernel_rfl)
  ·
   have h1':=of_decide_eq_false h1
   refine Tri.exit ?_
   have hend0:k0=(p1.length - 0):=by (have:=of_decide_eq_false h1; omega)
   subst hend0; subst hz0
   change Tri _ _ _ _ _ _
   refine sr [] none [4] [16] (TT∧(((True∧(16=16))∧True)∧True))
     ([(4,qp 16 0)],[(16,.ints .i64 16 ((itr (F27l0 p1) (p1.length - 0) ((F31 1),p0)).1))])
     192 (⟨tt,⟨⟨⟨trivial,(rfl)⟩,trivial⟩,trivial⟩⟩) ?_
   refine Tri.ret ?_
   exact endP.ret [] TT (by kernel_rfl) (by kernel_rfl) (by kernel_rfl) tt
noncomputable def F51l0 (k0:Nat) (z0:List Int):List Int :=
 z0.set k0 255
noncomputable def F51 (p0:Int) (p1:Int):List Int :=
 ((itr (F51l0) 31 (List.replicate 32 0)).set 0 (iAdd .u8 (iSub .u8 255 p1) 1)).set 31 (iSub .u8 (iShl .u8 1 (iSub .i64 p0 248)) 1)
noncomputable def S51:List AV→Option (Prop × Ret)
 | [.sc (.i .i64 p0),.sc (.i .u8 p1)] => some ((248:Int)≤p0∧p0≤(255:Int),⟨.sc (.sl 0 0 32 1 none),[.ints .u8 32 (F51 p0 p1)]⟩)
 | _ => none
noncomputable def B51:Bs:={ P:=Go.Proofs.Tryd.prog,G:=gD,tab:=tabOf [],n:=27 }
theorem B51.ok:B51.Ok:=⟨tabOk (P:=Go.Proofs.Tryd.prog) (G:=gD) (l:=[]) True.intro,mixed⟩
theorem K51:Known Go.Proofs.Tryd.prog gD 76 ⟨[.val,.val],1,S51⟩:=by
 refine Known.walk (B:=B51) (fn:=Go.Proofs.Tryd.f76) B51.ok (by kernel_rfl) rfl (by kernel_rfl) (by kernel_rfl) (by decide) ?_ ?_
 ·intro vs C r h
  simp only at h
  unfold S51 at h
  split at h
  ·cases h; rfl
  ·cases h
 ·intro E args C r h hC hlen
  simp only at h
  unfold S51 at h
  split at h
  rotate_left
  ·cases h
  rename_i p0 p1
  cases h
  simp only [lens] at hlen
  refine ⟨show 2≤27 from by decide,?_⟩
  refine Tri.sub (Sub.of_eq (show _=([(0,qi p0),(1,.sc (.i .u8 p1))],[]) from rfl)) ?_
  refine sr [] none [0,1] [] (TT∧True)
    ([(0,qi p0),(1,.sc (.i .u8 p1))],[])
    16 (⟨tt,trivial⟩) ?_
  refine sr [] none [5,0,1] [16] (((((0:Int)≤32∧(32:Int)=32)∧((32≤(140737488355328:Int))∧(((1:Nat):Int) * 32≤281474976710656)))∧True)∧(TT∧True))
    ([(5,.sc (.sl 16 0 32 1 none)),(0,qi p0),(1,.sc (.i .u8 p1))],[(16,.ints .u8 32 (List.replicate 32 0))])
    48 (⟨⟨⟨(by omega),⟨(by omega),(by omega)⟩⟩,trivial⟩,⟨tt,trivial⟩⟩) ?_
  refine Tri.seq ?_
  refine sr [] none [6,5,0,1] [16] (TT∧True)
    ([(6,qi 0),(5,.sc (.sl 16 0 32 1 none)),(0,qi p0),(1,.sc (.i .u8 p1))],[(16,.ints .u8 32 (List.replicate 32 0))])
    64 (⟨tt,trivial⟩) ?_
  refine Tri.block ?_
  refine Tri.count 64 31 (F51l0) (List.replicate 32 0) (fun k0 z0 => True) (fun k0 z0 => ([(6,qi (k0:Int)),(5,.sc (.sl 16 0 32 1 none)),(0,qi p0),(1,.sc (.i .u8 p1))],[(16,.ints .u8 32 z0)])) trivial (Sub.of_eq (by kernel_rfl)) ?_
  intro k0 z0 hk0 hz0 hJ0
  refine Tri.seq ?_
  refine sr [] none [9,6,5,0,1] [16] (TT∧(TT∧True))
    ([(9,.sc (.b (decide (((k0:Int):Int) < 31)))),(6,qi (k0:Int)),(5,.sc (.sl 16 0 32 1 none)),(0,qi p0),(1,.sc (.i .u8 p1))],[(16,.ints .u8 32 z0)])
    96 (⟨tt,⟨tt,trivial⟩⟩) ?_
  refine Tri.cond (x:=(decide (((k0:Int):Int) < 31))) (by kernel_rfl) (fun h1 => ?_) (fun h1 => ?_)
  ·
   have h1':=of_decide_eq_true h1
   refine Tri.skip ?_
   change Tri _ _ _ _ _ _
   refine Tri.seq ?_
   refine Tri.block ?_
   refine rr [] none [6,5,0,1] [16] (TT∧(TT∧((((0:Int)≤(k0:Int)∧(k0:Int) < ((32:Nat):Int))∧True)∧((((k0 < 32)∧(1=1))∧True)∧True))))
     ([(6,qi (k0:Int)),(5,.sc (.sl 16 0 32 1 none)),(0,qi p0),(1,.sc (.i .u8 p1))],[(16,.ints .u8 32 (z0.set k0 255))])
     160 (⟨tt,⟨tt,⟨⟨(by omega),trivial⟩,⟨⟨⟨(by omega),(rfl)⟩,trivial⟩,trivial⟩⟩⟩⟩) ?_
   change Tri _ _ _ _ _ _
   refine rr [(11,.i .i64 ((k0 + 1:Nat):Int))] none [6,5,0,1] [16] (TT∧((True∧((iAdd .i64 (k0:Int) 1)=((k0 + 1:Nat):Int)))∧(TT∧True)))
     ([(6,qi ((k0 + 1:Nat):Int)),(5,.sc (.sl 16 0 32 1 none)),(0,qi p0),(1,.sc (.i .u8 p1))],[(16,.ints .u8 32 (z0.set k0 255))])
     208 (⟨tt,⟨⟨trivial,(iAdd_nat (a:=k0) (b:=1) (by omega))⟩,⟨tt,trivial⟩⟩⟩) ?_
   refine countP_normal (by omega) trivial ?_
   exact Sub.ren (ns:=[(16,16)]) (kf:=[6,5,0,1]) (by kernel_rfl) (by kernel_rfl)
  ·
   have h1':=of_decide_eq_false h1
   refine Tri.exit ?_
   have hend0:k0=31:=by (have:=of_decide_eq_false h1; omega)
   subst hend0; subst hz0
   change Tri _ _ _ _ _ _
   refine sr [] none [5,0] [16] (TT∧(TT∧(TT∧(TT∧((((0:Int)≤0∧0 < ((32:Nat):Int))∧True)∧((((0 < 32)∧(1=1))∧True)∧True))))))
     ([(5,.sc (.sl 16 0 32 1 none)),(0,qi p0)],[(16,.ints .u8 32 ((itr (F51l0) 31 (List.replicate 32 0)).set 0 (iAdd .u8 (iSub .u8 255 p1) 1)))])
     192 (⟨tt,⟨tt,⟨tt,⟨tt,⟨⟨(by omega),trivial⟩,⟨⟨⟨(by omega),(rfl)⟩,trivial⟩,trivial⟩⟩⟩⟩⟩⟩) ?_
   refine sr [] none [5] [16] (TT∧(TT∧(TT∧((((0:Int)≤(iSub .i64 p0 248))∧True)∧(TT∧((((0:Int)≤31∧31 < ((32:Nat):Int))∧True)∧((((31 < 32)∧(1=1))∧True)∧True)))))))
     ([(5,.sc (.sl 16 0 32 1 none))],[(16,.ints .u8 32 (((itr (F51l0) 31 (List.replicate 32 0)).set 0 (iAdd .u8 (iSub .u8 255 p1) 1)).set 31 (iSub .u8 (iShl .u8 1 (iSub .i64 p0 248)) 1)))])
     304 (⟨tt,⟨tt,⟨tt,⟨⟨(by first | omega | (unfold iSub; rw [wrap_small (by omega) (by omega)]; omega)),trivial⟩,⟨tt,⟨⟨(by omega),trivial⟩,⟨⟨⟨(by omega),(rfl)⟩,trivial⟩,trivial⟩⟩⟩⟩⟩⟩⟩) ?_
   refine sr [] none [4] [16] (TT∧(TT∧True))
     ([(4,.sc (.sl 16 0 32 1 none))],[(16,.ints .u8 32 (((itr (F51l0) 31 (List.replicate 32 0)).set 0 (iAdd .u8 (iSub .u8 255 p1) 1)).set 31 (iSub .u8 (iShl .u8 1 (iSub .i64 p0 248)) 1)))])
     336 (⟨tt,⟨tt,trivial⟩⟩) ?_
   refine Tri.ret ?_
   exact endP.ret [(16,0)] TT (by kernel_rfl) (by kernel_rfl) (by kernel_rfl) tt
theorem len51 (a b:Int):(F51 a b).length=32:=by
 have h:∀ (n:Nat) (z:List Int),z.length=32→(itr F51l0 n z).length=32:=by
  intro n z hz
  induction n with
  | zero => rw [itr_zero]; exact hz
  | succ n ih => rw [itr_succ]; show (List.set _ _ _).length=32; rw [List.length_set]; exact ih
 unfold F51
 simp [h]
noncomputable def F28 (p0:List Int):List Int :=
 (F27 p0 (part1 (F51 255 21) 32 0 32))
noncomputable def S28:List AV→Option (Prop × Ret)
 | [.ints .i64 16 p0] => some (True,⟨.ints .i64 16 (F28 p0),[]⟩)
 | _ => none
noncomputable def B28:Bs:={ P:=Go.Proofs.Tryd.prog,G:=gD,tab:=tabOf [(75,⟨[.val,.ro .u8],0,S27⟩),(76,⟨[.val,.val],1,S51⟩)],n:=6 }
theorem B28.ok:B28.Ok:=⟨tabOk (P:=Go.Proofs.Tryd.prog) (G:=gD) (l:=[(75,⟨[.val,.ro .u8],0,S27⟩),(76,⟨[.val,.val],1,S51⟩)]) (And.intro K27 (And.intro K51 True.intro)),mixed⟩
theorem K28:Known Go.Proofs.Tryd.prog gD 55 ⟨[.val],0,S28⟩:=by
 refine Known.walk (B:=B28) (fn:=Go.Proofs.Tryd.f55) B28.ok (by kernel_rfl) rfl (by kernel_rfl) (by kernel_rfl) (by decide) ?_ ?_
 ·intro vs C r h
  simp only at h
  unfold S28 at h
  split at h
  ·cases h; rfl
  ·cases h
 ·intro E args C r h hC hlen
  simp only at h
  unfold S28 at h
  split at h
  rotate_left
  ·cases h
  rename_i p0
  cases h
  simp only [lens] at hlen
  refine ⟨show 1≤6 from by decide,?_⟩
  refine Tri.sub (Sub.of_eq (show _=([(0,.ints .i64 16 p0)],[]) from rfl)) ?_
  refine sr [] none [2,1] [16,0] (TT∧(TT∧True))
    ([(2,qp 16 0),(1,qp 0 0)],[(16,.ints .i64 16 [0,0,0,0,0,0,0,0,0,0,0,0,0,0,0,0]),(0,.ints .i64 16 p0)])
    32 (⟨tt,⟨tt,trivial⟩⟩) ?_
  refine sr [] (some [0,0,3,7]) [2] [16] (TT∧(((True∧((248:Int)≤255∧255≤(255:Int)))∧True)∧(((((0 + 32≤32)∧True)∧((part1 (F51 255 21) 32 0 32).length≤1000000))∧True)∧(((True∧(16=16))∧True)∧True))))
    ([(2,qp 16 0)],[(16,.ints .i64 16 (F27 p0 (part1 (F51 255 21) 32 0 32)))])
    96 (⟨tt,⟨⟨⟨trivial,(by omega)⟩,trivial⟩,⟨⟨⟨⟨(by omega),trivial⟩,(by rw [part1_all (len51 _ _),len51]; decide)⟩,trivial⟩,⟨⟨⟨trivial,(rfl)⟩,trivial⟩,trivial⟩⟩⟩⟩) ?_
  refine Tri.ret ?_
  exact endP.ret [] TT (by kernel_rfl) (by kernel_rfl) (by kernel_rfl) tt
noncomputable def F49l0 (p0:List Int) (k0:Nat) (z0:Nat × List Int):Nat × List Int :=
 (z0.1 + 2,z0.2 ++ [(IntKind.wrap .u8 (iRem (p0.getD k0 0) 256)),(IntKind.wrap .u8 (iQuo .i64 (p0.getD k0 0) 256))])
noncomputable def F49 (p0:List Int):List Int :=
 (itr (F49l0 p0) 16 (0,[])).2
theorem n49 (p0:List Int):(itr (F49l0 p0) 16 (0,[])).1=32:=by
 have h0:∀ (k:Nat),(itr (F49l0 p0) k (0,[])).1=2 * k:=by
  intro k
  induction k with
  | zero => rw [itr_zero]
  | succ k ih => rw [itr_succ]; show (itr (F49l0 p0) k (0,[])).1 + 2=_; rw [ih]; omega
 rw [h0]
noncomputable def S49:List AV→Option (Prop × Ret)
 | [.ints .i64 16 p0] => some (True,⟨.sc (.sl 0 0 32 1 none),[.ints .u8 32 (F49 p0)]⟩)
 | _ => none
noncomputable def B49:Bs:={ P:=Go.Proofs.Tryd.prog,G:=gD,tab:=tabOf [],n:=23 }
theorem B49.ok:B49.Ok:=⟨tabOk (P:=Go.Proofs.Tryd.prog) (G:=gD) (l:=[]) True.intro,mixed⟩
theorem K49:Known Go.Proofs.Tryd.prog gD 56 ⟨[.val],1,S49⟩:=by
 refine Known.walk (B:=B49) (fn:=Go.Proofs.Tryd.f56) B49.ok (by kernel_rfl) rfl (by kernel_rfl) (by kernel_rfl) (by decide) ?_ ?_
 ·intro vs C r h
  simp only at h
  unfold S49 at h
  split at h
  ·cases h; rfl
  ·cases h
 ·intro E args C r h hC hlen
  simp only at h
  unfold S49 at h
  split at h
  rotate_left
  ·cases h
  rename_i p0
  cases h
  simp only [lens] at hlen
  refine ⟨show 1≤23 from by decide,?_⟩
  refine Tri.sub (Sub.of_eq (show _=([(0,.ints .i64 16 p0)],[]) from rfl)) ?_
  refine sr [] none [1] [0] (TT∧(TT∧True))
    ([(1,qp 0 0)],[(0,.ints .i64 16 p0)])
    32 (⟨tt,⟨tt,trivial⟩⟩) ?_
  refine sr [] none [3,1] [0] (TT∧True)
    ([(3,.sc (.nils)),(1,qp 0 0)],[(0,.ints .i64 16 p0)])
    48 (⟨tt,trivial⟩) ?_
  refine Tri.seq ?_
  refine sr [] none [4,3,1] [0] (TT∧True)
    ([(4,qi 0),(3,.sc (.nils)),(1,qp 0 0)],[(0,.ints .i64 16 p0)])
    64 (⟨tt,trivial⟩) ?_
  refine Tri.block ?_
  refine Tri.sub (Sub.openNil (U:=64) (U':=80) 3 64 1 .u8 none (.inl rfl) (by decide) (by decide) (by kernel_rfl) (by kernel_rfl)) ?_
  refine Tri.count 80 16 (F49l0 p0) (0,[]) (fun k0 z0 => z0.1=2 * k0) (fun k0 z0 => ([(3,.sc (.sl 64 0 z0.1 1 none)),(4,qi (k0:Int)),(1,qp 0 0)],[(64,.ints .u8 z0.1 z0.2),(0,.ints .i64 16 p0)])) rfl (Sub.of_eq (by kernel_rfl)) ?_
  intro k0 z0 hk0 hz0 hJ0
  refine Tri.seq ?_
  refine sr [] none [6,3,4,1] [64,0] (TT∧(TT∧True))
    ([(6,.sc (.b (decide (((k0:Int):Int) < 16)))),(3,.sc (.sl 64 0 z0.1 1 none)),(4,qi (k0:Int)),(1,qp 0 0)],[(64,.ints .u8 z0.1 z0.2),(0,.ints .i64 16 p0)])
    112 (⟨tt,⟨tt,trivial⟩⟩) ?_
  refine Tri.cond (x:=(decide (((k0:Int):Int) < 16))) (by kernel_rfl) (fun h1 => ?_) (fun h1 => ?_)
  ·
   have h1':=of_decide_eq_true h1
   refine Tri.skip ?_
   change Tri _ _ _ _ _ _
   refine Tri.seq ?_
   refine Tri.block ?_
   refine rr [] (some [0,0,2,6,14,30,0,64,192,448,960,2046,4095,8191]) [3,4,1] [304,0] (TT∧(TT∧((((0:Int)≤(k0:Int)∧(k0:Int) < ((16:Nat):Int))∧True)∧(((k0 < 16)∧True)∧(((256 ≠ (0:Int))∧True)∧(TT∧(TT∧((((0:Int)≤(k0:Int)∧(k0:Int) < ((16:Nat):Int))∧True)∧(((k0 < 16)∧True)∧(((256 ≠ (0:Int))∧True)∧(TT∧((((((0 < 2)∧(1=1))∧(((1 < 2)∧(1=1))∧True))∧((2 * 1≤16777216)∧(1=1)))∧True)∧((((((True∧(1=1))∧((0 < 1)∧(((z0.1 + 2) * 1≤140737488355328)∧(z0.1 + 2≤140737488355328))))∧(2=2 * 1))∧((1=1)∧(0 + z0.1 * 1=z0.1)))∧True)∧(TT∧True))))))))))))))
     ([(3,.sc (.sl 304 0 (z0.1 + 2) 1 none)),(4,qi (k0:Int)),(1,qp 0 0)],[(304,.ints .u8 (z0.1 + 2) (z0.2 ++ [(IntKind.wrap .u8 (iRem (p0.getD k0 0) 256)),(IntKind.wrap .u8 (iQuo .i64 (p0.getD k0 0) 256))])),(0,.ints .i64 16 p0)])
     336 (⟨tt,⟨tt,⟨⟨(by omega),trivial⟩,⟨⟨(by omega),trivial⟩,⟨⟨(by omega),trivial⟩,⟨tt,⟨tt,⟨⟨(by omega),trivial⟩,⟨⟨(by omega),trivial⟩,⟨⟨(by omega),trivial⟩,⟨tt,⟨⟨⟨⟨⟨(by omega),(rfl)⟩,⟨⟨(by omega),(rfl)⟩,trivial⟩⟩,⟨(by omega),(rfl)⟩⟩,trivial⟩,⟨⟨⟨⟨⟨⟨trivial,(rfl)⟩,⟨(by omega),⟨(by omega),(by omega)⟩⟩⟩,(by omega)⟩,⟨(rfl),(by omega)⟩⟩,trivial⟩,⟨tt,trivial⟩⟩⟩⟩⟩⟩⟩⟩⟩⟩⟩⟩⟩⟩) ?_
   change Tri _ _ _ _ _ _
   refine rr [(8,.i .i64 ((k0 + 1:Nat):Int))] none [4,3,1] [304,0] (TT∧((True∧((iAdd .i64 (k0:Int) 1)=((k0 + 1:Nat):Int)))∧(TT∧True)))
     ([(4,qi ((k0 + 1:Nat):Int)),(3,.sc (.sl 304 0 (z0.1 + 2) 1 none)),(1,qp 0 0)],[(304,.ints .u8 (z0.1 + 2) (z0.2 ++ [(IntKind.wrap .u8 (iRem (p0.getD k0 0) 256)),(IntKind.wrap .u8 (iQuo .i64 (p0.getD k0 0) 256))])),(0,.ints .i64 16 p0)])
     384 (⟨tt,⟨⟨trivial,(iAdd_nat (a:=k0) (b:=1) (by omega))⟩,⟨tt,trivial⟩⟩⟩) ?_
   refine countP_normal (by omega) (show z0.1 + 2=2 * (k0 + 1) by omega) ?_
   exact Sub.ren (ns:=[(304,64),(0,0)]) (kf:=[3,4,1]) (by kernel_rfl) (by kernel_rfl)
  ·
   have h1':=of_decide_eq_false h1
   refine Tri.exit ?_
   have hend0:k0=16:=by (have:=of_decide_eq_false h1; omega)
   subst hend0; subst hz0
   change Tri _ _ _ _ _ _
   refine sr [] none [2] [64] (TT∧(TT∧True))
     ([(2,.sc (.sl 64 0 ((itr (F49l0 p0) 16 (0,[])).1) 1 none))],[(64,.ints .u8 ((itr (F49l0 p0) 16 (0,[])).1) ((itr (F49l0 p0) 16 (0,[])).2))])
     144 (⟨tt,⟨tt,trivial⟩⟩) ?_
   refine Tri.ret ?_
   refine endP.conv (r':=⟨.sc (.sl 0 0 ((itr (F49l0 p0) 16 (0,[])).1) 1 none),[.ints .u8 ((itr (F49l0 p0) 16 (0,[])).1) ((itr (F49l0 p0) 16 (0,[])).2)]⟩) (by simp only [F49,n49,sel_true,sel_false]) ?_
   exact endP.ret [(64,0)] TT (by kernel_rfl) (by kernel_rfl) (by kernel_rfl) tt
theorem lenb49 (p0:List Int):(F49 p0).length=32:=by
 have h0:∀ (k:Nat),(itr (F49l0 p0) k (0,[])).2.length=2 * k:=by
  intro k
  induction k with
  | zero => rw [itr_zero]; rfl
  | succ k ih => rw [itr_succ]; show ((itr (F49l0 p0) k (0,[])).2 ++ [_,_]).length=_; rw [List.length_append,ih]; rfl
 exact h0 16
noncomputable def F35 (p0:List Int):List Int :=
 (sel (!(((F21 (F27 p0 (part1 (F51 252 2) 32 0 32)) (F27 p0 (part1 (F51 252 2) 32 0 32))):List Int) == p0)) (F21 (F27 p0 (part1 (F51 252 2) 32 0 32)) (F27 (F31 2) (part1 (F51 253 5) 32 0 32))) (F27 p0 (part1 (F51 252 2) 32 0 32)))
noncomputable def F35_1 (p0:List Int):Bool :=
 (((F21 (sel (!(((F21 (F27 p0 (part1 (F51 252 2) 32 0 32)) (F27 p0 (part1 (F51 252 2) 32 0 32))):List Int) == p0)) (F21 (F27 p0 (part1 (F51 252 2) 32 0 32)) (F27 (F31 2) (part1 (F51 253 5) 32 0 32))) (F27 p0 (part1 (F51 252 2) 32 0 32))) (sel (!(((F21 (F27 p0 (part1 (F51 252 2) 32 0 32)) (F27 p0 (part1 (F51 252 2) 32 0 32))):List Int) == p0)) (F21 (F27 p0 (part1 (F51 252 2) 32 0 32)) (F27 (F31 2) (part1 (F51 253 5) 32 0 32))) (F27 p0 (part1 (F51 252 2) 32 0 32)))):List Int) == p0)
noncomputable def S35:List AV→Option (Prop × Ret)
 | [.ints .i64 16 p0] => some (True,⟨.tup [.ints .i64 16 (F35 p0),.sc (.b (F35_1 p0))],[]⟩)
 | _ => none
noncomputable def B35:Bs:={ P:=Go.Proofs.Tryd.prog,G:=gD,tab:=tabOf [(70,⟨[.val],0,S31⟩),(75,⟨[.val,.ro .u8],0,S27⟩),(76,⟨[.val,.val],1,S51⟩),(77,⟨[.val,.val],0,S21⟩)],n:=24 }
theorem B35.ok:B35.Ok:=⟨tabOk (P:=Go.Proofs.Tryd.prog) (G:=gD) (l:=[(70,⟨[.val],0,S31⟩),(75,⟨[.val,.ro .u8],0,S27⟩),(76,⟨[.val,.val],1,S51⟩),(77,⟨[.val,.val],0,S21⟩)]) (And.intro K31 (And.intro K27 (And.intro K51 (And.intro K21 True.intro)))),mixed⟩
theorem K35:Known Go.Proofs.Tryd.prog gD 67 ⟨[.val],0,S35⟩:=by
 refine Known.walk (B:=B35) (fn:=Go.Proofs.Tryd.f67) B35.ok (by kernel_rfl) rfl (by kernel_rfl) (by kernel_rfl) (by decide) ?_ ?_
 ·intro vs C r h
  simp only at h
  unfold S35 at h
  split at h
  ·cases h; rfl
  ·cases h
 ·intro E args C r h hC hlen
  simp only at h
  unfold S35 at h
  split at h
  rotate_left
  ·cases h
  rename_i p0
  cases h
  simp only [lens] at hlen
  refine ⟨show 1≤24 from by decide,?_⟩
  refine Tri.sub (Sub.of_eq (show _=([(0,.ints .i64 16 p0)],[]) from rfl)) ?_
  refine sr [] none [2,1] [16,0] (TT∧(TT∧(TT∧True)))
    ([(2,qp 16 0),(1,qp 0 0)],[(16,.ints .i64 16 [0,0,0,0,0,0,0,0,0,0,0,0,0,0,0,0]),(0,.ints .i64 16 p0)])
    48 (⟨tt,⟨tt,⟨tt,trivial⟩⟩⟩) ?_
  refine sr [] (some [0,0,3,0,15]) [4,2,1] [96,16,0] (TT∧(((True∧((248:Int)≤252∧252≤(255:Int)))∧True)∧(((((0 + 32≤32)∧True)∧((part1 (F51 252 2) 32 0 32).length≤1000000))∧True)∧(TT∧(((True∧(16=16))∧True)∧True)))))
    ([(4,qp 96 0),(2,qp 16 0),(1,qp 0 0)],[(96,.ints .i64 16 (F27 p0 (part1 (F51 252 2) 32 0 32))),(16,.ints .i64 16 [0,0,0,0,0,0,0,0,0,0,0,0,0,0,0,0]),(0,.ints .i64 16 p0)])
    128 (⟨tt,⟨⟨⟨trivial,(by omega)⟩,trivial⟩,⟨⟨⟨⟨(by omega),trivial⟩,(by rw [part1_all (len51 _ _),len51]; decide)⟩,trivial⟩,⟨tt,⟨⟨⟨trivial,(rfl)⟩,trivial⟩,trivial⟩⟩⟩⟩⟩) ?_
  refine Tri.seq ?_
  refine sr [] (some [0,0,3,0,15]) [12,4,2,1] [96,16,0] (TT∧(TT∧((TT∧True)∧(TT∧(TT∧True)))))
    ([(12,.sc (.b (!(((F21 (F27 p0 (part1 (F51 252 2) 32 0 32)) (F27 p0 (part1 (F51 252 2) 32 0 32))):List Int) == p0)))),(4,qp 96 0),(2,qp 16 0),(1,qp 0 0)],[(96,.ints .i64 16 (F27 p0 (part1 (F51 252 2) 32 0 32))),(16,.ints .i64 16 [0,0,0,0,0,0,0,0,0,0,0,0,0,0,0,0]),(0,.ints .i64 16 p0)])
    208 (⟨tt,⟨tt,⟨⟨tt,trivial⟩,⟨tt,⟨tt,trivial⟩⟩⟩⟩⟩) ?_
  refine Tri.join (x:=(!(((F21 (F27 p0 (part1 (F51 252 2) 32 0 32)) (F27 p0 (part1 (F51 252 2) 32 0 32))):List Int) == p0))) (fun bb => ([(4,qp 96 0),(2,qp 16 0),(1,qp 0 0)],[(96,.ints .i64 16 (sel bb (F21 (F27 p0 (part1 (F51 252 2) 32 0 32)) (F27 (F31 2) (part1 (F51 253 5) 32 0 32))) (F27 p0 (part1 (F51 252 2) 32 0 32)))),(16,.ints .i64 16 [0,0,0,0,0,0,0,0,0,0,0,0,0,0,0,0]),(0,.ints .i64 16 p0)])) 304 (by kernel_rfl) (fun h1 => ?_) (fun h1 => ?_) ?_
  ·
   refine rr [] (some [0,0,2,6,15,31]) [4,2,1] [96,16,0] (TT∧((TT∧True)∧(((True∧((248:Int)≤253∧253≤(255:Int)))∧True)∧(((((0 + 32≤32)∧True)∧((part1 (F51 253 5) 32 0 32).length≤1000000))∧True)∧((TT∧True)∧(((True∧(16=16))∧True)∧True))))))
     ([(4,qp 96 0),(2,qp 16 0),(1,qp 0 0)],[(96,.ints .i64 16 (F21 (F27 p0 (part1 (F51 252 2) 32 0 32)) (F27 (F31 2) (part1 (F51 253 5) 32 0 32)))),(16,.ints .i64 16 [0,0,0,0,0,0,0,0,0,0,0,0,0,0,0,0]),(0,.ints .i64 16 p0)])
     304 (⟨tt,⟨⟨tt,trivial⟩,⟨⟨⟨trivial,(by omega)⟩,trivial⟩,⟨⟨⟨⟨(by omega),trivial⟩,(by rw [part1_all (len51 _ _),len51]; decide)⟩,trivial⟩,⟨⟨tt,trivial⟩,⟨⟨⟨trivial,(rfl)⟩,trivial⟩,trivial⟩⟩⟩⟩⟩⟩) ?_
   exact (Sub.ren (ns:=[(96,96),(16,16),(0,0)]) (kf:=[4,2,1]) (s':=([(4,qp 96 0),(2,qp 16 0),(1,qp 0 0)],[(96,.ints .i64 16 (F21 (F27 p0 (part1 (F51 252 2) 32 0 32)) (F27 (F31 2) (part1 (F51 253 5) 32 0 32)))),(16,.ints .i64 16 [0,0,0,0,0,0,0,0,0,0,0,0,0,0,0,0]),(0,.ints .i64 16 p0)])) (by kernel_rfl) (by kernel_rfl)).trans (Sub.of_eq (by simp only [sel_true,sel_false]))
  ·
   refine Tri.skip ?_
   exact (Sub.ren (ns:=[(96,96),(16,16),(0,0)]) (kf:=[4,2,1]) (s':=([(4,qp 96 0),(2,qp 16 0),(1,qp 0 0)],[(96,.ints .i64 16 (F27 p0 (part1 (F51 252 2) 32 0 32))),(16,.ints .i64 16 [0,0,0,0,0,0,0,0,0,0,0,0,0,0,0,0]),(0,.ints .i64 16 p0)])) (by kernel_rfl) (by kernel_rfl)).trans (Sub.of_eq (by simp only [sel_true,sel_false]))
  ·
   change Tri _ _ _ _ _ _
   refine sr [] (some [0,0,0,6,0,30,15,127]) [3,2] [16] (TT∧(TT∧(TT∧((TT∧True)∧(TT∧(TT∧(((True∧(16=16))∧True)∧(TT∧True))))))))
     ([(3,.sc (.b (((F21 (sel (!(((F21 (F27 p0 (part1 (F51 252 2) 32 0 32)) (F27 p0 (part1 (F51 252 2) 32 0 32))):List Int) == p0)) (F21 (F27 p0 (part1 (F51 252 2) 32 0 32)) (F27 (F31 2) (part1 (F51 253 5) 32 0 32))) (F27 p0 (part1 (F51 252 2) 32 0 32))) (sel (!(((F21 (F27 p0 (part1 (F51 252 2) 32 0 32)) (F27 p0 (part1 (F51 252 2) 32 0 32))):List Int) == p0)) (F21 (F27 p0 (part1 (F51 252 2) 32 0 32)) (F27 (F31 2) (part1 (F51 253 5) 32 0 32))) (F27 p0 (part1 (F51 252 2) 32 0 32)))):List Int) == p0))),(2,qp 16 0)],[(16,.ints .i64 16 (sel (!(((F21 (F27 p0 (part1 (F51 252 2) 32 0 32)) (F27 p0 (part1 (F51 252 2) 32 0 32))):List Int) == p0)) (F21 (F27 p0 (part1 (F51 252 2) 32 0 32)) (F27 (F31 2) (part1 (F51 253 5) 32 0 32))) (F27 p0 (part1 (F51 252 2) 32 0 32))))])
     432 (⟨tt,⟨tt,⟨tt,⟨⟨tt,trivial⟩,⟨tt,⟨tt,⟨⟨⟨trivial,(rfl)⟩,trivial⟩,⟨tt,trivial⟩⟩⟩⟩⟩⟩⟩⟩) ?_
   refine Tri.ret ?_
   exact endP.ret [] (True∧TT) (by kernel_rfl) (by kernel_rfl) (by kernel_rfl) ⟨trivial,tt⟩
noncomputable def F43 (p0:List Int):List Int :=
 (p0.set 0 (iAnd .u8 (p0.getD 0 0) 248)).set 31 (iOr .u8 (iAnd .u8 ((p0.set 0 (iAnd .u8 (p0.getD 0 0) 248)).getD 31 0) 127) 64)
noncomputable def S43:List AV→Option (Prop × Ret)
 | [.ints .u8 32 p0] => some (True,⟨.ints .u8 32 (F43 p0),[]⟩)
 | _ => none
noncomputable def B43:Bs:={ P:=Go.Proofs.Tryd.prog,G:=gD,tab:=tabOf [],n:=13 }
theorem B43.ok:B43.Ok:=⟨tabOk (P:=Go.Proofs.Tryd.prog) (G:=gD) (l:=[]) True.intro,mixed⟩
theorem K43:Known Go.Proofs.Tryd.prog gD 17 ⟨[.val],0,S43⟩:=by
 refine Known.walk (B:=B43) (fn:=Go.Proofs.Tryd.f17) B43.ok (by kernel_rfl) rfl (by kernel_rfl) (by kernel_rfl) (by decide) ?_ ?_
 ·intro vs C r h
  simp only at h
  unfold S43 at h
  split at h
  ·cases h; rfl
  ·cases h
 ·intro E args C r h hC hlen
  simp only at h
  unfold S43 at h
  split at h
  rotate_left
  ·cases h
  rename_i p0
  cases h
  simp only [lens] at hlen
  refine ⟨show 1≤13 from by decide,?_⟩
  refine Tri.sub (Sub.of_eq (show _=([(0,.ints .u8 32 p0)],[]) from rfl)) ?_
  refine sr [] none [2,1] [16,0] (TT∧(TT∧True))
    ([(2,qp 16 0),(1,qp 0 0)],[(16,.ints .u8 32 [0,0,0,0,0,0,0,0,0,0,0,0,0,0,0,0,0,0,0,0,0,0,0,0,0,0,0,0,0,0,0,0]),(0,.ints .u8 32 p0)])
    32 (⟨tt,⟨tt,trivial⟩⟩) ?_
  refine sr [] none [2,1] [0,16] ((((0:Int)≤0∧0 < ((32:Nat):Int))∧True)∧(((0 < 32)∧True)∧(TT∧((((0:Int)≤0∧0 < ((32:Nat):Int))∧True)∧((((0 < 32)∧(1=1))∧True)∧True)))))
    ([(2,qp 16 0),(1,qp 0 0)],[(0,.ints .u8 32 (p0.set 0 (iAnd .u8 (p0.getD 0 0) 248))),(16,.ints .u8 32 [0,0,0,0,0,0,0,0,0,0,0,0,0,0,0,0,0,0,0,0,0,0,0,0,0,0,0,0,0,0,0,0])])
    112 (⟨⟨(by omega),trivial⟩,⟨⟨(by omega),trivial⟩,⟨tt,⟨⟨(by omega),trivial⟩,⟨⟨⟨(by omega),(rfl)⟩,trivial⟩,trivial⟩⟩⟩⟩⟩) ?_
  refine sr [] none [2,1] [0,16] ((((0:Int)≤31∧31 < ((32:Nat):Int))∧True)∧(((31 < 32)∧True)∧(TT∧(TT∧((((0:Int)≤31∧31 < ((32:Nat):Int))∧True)∧((((31 < 32)∧(1=1))∧True)∧True))))))
    ([(2,qp 16 0),(1,qp 0 0)],[(0,.ints .u8 32 ((p0.set 0 (iAnd .u8 (p0.getD 0 0) 248)).set 31 (iOr .u8 (iAnd .u8 ((p0.set 0 (iAnd .u8 (p0.getD 0 0) 248)).getD 31 0) 127) 64))),(16,.ints .u8 32 [0,0,0,0,0,0,0,0,0,0,0,0,0,0,0,0,0,0,0,0,0,0,0,0,0,0,0,0,0,0,0,0])])
    208 (⟨⟨(by omega),trivial⟩,⟨⟨(by omega),trivial⟩,⟨tt,⟨tt,⟨⟨(by omega),trivial⟩,⟨⟨⟨(by omega),(rfl)⟩,trivial⟩,trivial⟩⟩⟩⟩⟩⟩) ?_
  refine sr [] none [2] [16] (TT∧(((True∧(32=32))∧True)∧True))
    ([(2,qp 16 0)],[(16,.ints .u8 32 ((p0.set 0 (iAnd .u8 (p0.getD 0 0) 248)).set 31 (iOr .u8 (iAnd .u8 ((p0.set 0 (iAnd .u8 (p0.getD 0 0) 248)).getD 31 0) 127) 64)))])
    240 (⟨tt,⟨⟨⟨trivial,(rfl)⟩,trivial⟩,trivial⟩⟩) ?_
  refine Tri.ret ?_
  exact endP.ret [] TT (by kernel_rfl) (by kernel_rfl) (by kernel_rfl) tt
noncomputable def F44 (p0:List Int):List Int :=
 (p0.set 0 (iSub .u8 (p0.getD 0 0) (iRem (p0.getD 0 0) 8))).set 31 (iAdd .u8 (iRem ((p0.set 0 (iSub .u8 (p0.getD 0 0) (iRem (p0.getD 0 0) 8))).getD 31 0) 64) 64)
noncomputable def S44:List AV→Option (Prop × Ret)
 | [.sc (.ro .u8 p0)] => some (p0.length=32,⟨.sc (.sl 0 0 p0.length 1 none),[.ints .u8 p0.length (F44 p0)]⟩)
 | _ => none
noncomputable def B44:Bs:={ P:=Go.Proofs.Tryd.prog,G:=gD,tab:=tabOf [],n:=23 }
theorem B44.ok:B44.Ok:=⟨tabOk (P:=Go.Proofs.Tryd.prog) (G:=gD) (l:=[]) True.intro,mixed⟩
theorem K44:Known Go.Proofs.Tryd.prog gD 28 ⟨[.ro .u8],1,S44⟩:=by
 refine Known.walk (B:=B44) (fn:=Go.Proofs.Tryd.f28) B44.ok (by kernel_rfl) rfl (by kernel_rfl) (by kernel_rfl) (by decide) ?_ ?_
 ·intro vs C r h
  simp only at h
  unfold S44 at h
  split at h
  ·cases h; rfl
  ·cases h
 ·intro E args C r h hC hlen
  simp only at h
  unfold S44 at h
  split at h
  rotate_left
  ·cases h
  rename_i p0
  cases h
  simp only [lens] at hlen
  refine ⟨show 1≤23 from by decide,?_⟩
  refine Tri.sub (Sub.of_eq (show _=([(0,qr p0)],[]) from rfl)) ?_
  refine sr [] none [0] [] (TT∧True)
    ([(0,qr p0)],[])
    16 (⟨tt,trivial⟩) ?_
  refine sr [] none [3] [32] (TT∧(((((True∧(1=1))∧((0 < 1)∧((p0.length * 1≤140737488355328)∧(p0.length≤140737488355328))))∧(p0.length=p0.length * 1))∧True)∧(TT∧True)))
    ([(3,.sc (.sl 32 0 p0.length 1 none))],[(32,.ints .u8 p0.length p0)])
    64 (⟨tt,⟨⟨⟨⟨⟨trivial,(rfl)⟩,⟨(by omega),⟨(by omega),(by omega)⟩⟩⟩,(by omega)⟩,trivial⟩,⟨tt,trivial⟩⟩⟩) ?_
  refine sr [] (some [0,1,3,0,8,24,56,127,255,511]) [3] [32] (TT∧((((0:Int)≤0∧0 < (p0.length:Int))∧True)∧(((0 < p0.length)∧True)∧(TT∧((((0:Int)≤0∧0 < (p0.length:Int))∧True)∧(((0 < p0.length)∧True)∧(((8 ≠ (0:Int))∧True)∧(TT∧((((0:Int)≤0∧0 < (p0.length:Int))∧True)∧((((0 < p0.length)∧(1=1))∧True)∧True))))))))))
    ([(3,.sc (.sl 32 0 p0.length 1 none))],[(32,.ints .u8 p0.length (p0.set 0 (iSub .u8 (p0.getD 0 0) (iRem (p0.getD 0 0) 8))))])
    224 (⟨tt,⟨⟨(by omega),trivial⟩,⟨⟨(by omega),trivial⟩,⟨tt,⟨⟨(by omega),trivial⟩,⟨⟨(by omega),trivial⟩,⟨⟨(by omega),trivial⟩,⟨tt,⟨⟨(by omega),trivial⟩,⟨⟨⟨(by omega),(rfl)⟩,trivial⟩,trivial⟩⟩⟩⟩⟩⟩⟩⟩⟩⟩) ?_
  refine sr [] none [3] [32] (TT∧(TT∧((((0:Int)≤31∧31 < (p0.length:Int))∧True)∧(((31 < p0.length)∧True)∧(((64 ≠ (0:Int))∧True)∧(TT∧((((0:Int)≤31∧31 < (p0.length:Int))∧True)∧((((31 < p0.length)∧(1=1))∧True)∧True))))))))
    ([(3,.sc (.sl 32 0 p0.length 1 none))],[(32,.ints .u8 p0.length ((p0.set 0 (iSub .u8 (p0.getD 0 0) (iRem (p0.getD 0 0) 8))).set 31 (iAdd .u8 (iRem ((p0.set 0 (iSub .u8 (p0.getD 0 0) (iRem (p0.getD 0 0) 8))).getD 31 0) 64) 64)))])
    352 (⟨tt,⟨tt,⟨⟨(by omega),trivial⟩,⟨⟨(by omega),trivial⟩,⟨⟨(by omega),trivial⟩,⟨tt,⟨⟨(by omega),trivial⟩,⟨⟨⟨(by omega),(rfl)⟩,trivial⟩,trivial⟩⟩⟩⟩⟩⟩⟩⟩) ?_
  refine sr [] none [2] [32] (TT∧(TT∧True))
    ([(2,.sc (.sl 32 0 p0.length 1 none))],[(32,.ints .u8 p0.length ((p0.set 0 (iSub .u8 (p0.getD 0 0) (iRem (p0.getD 0 0) 8))).set 31 (iAdd .u8 (iRem ((p0.set 0 (iSub .u8 (p0.getD 0 0) (iRem (p0.getD 0 0) 8))).getD 31 0) 64) 64)))])
    384 (⟨tt,⟨tt,trivial⟩⟩) ?_
  refine Tri.ret ?_
  exact endP.ret [(32,0)] TT (by kernel_rfl) (by kernel_rfl) (by kernel_rfl) tt
theorem len44 (p0:List Int):(F44 p0).length=p0.length:=by
 unfold F44
 repeat (first | rfl | rw [List.length_set])
end Go.Vm
