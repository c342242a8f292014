/- To walk through a function's code with the small machine: what is known at each place. -/
import Derived.Test.YtfkmfdjdppjijaaVnO
set_option linter.unusedVariables false
set_option linter.unusedSimpArgs false
namespace Go.Vm
open Go

/-- What a walk through one function stands on. -/
structure Bs where
  P : Program
  G : Globs
  tab : Tab
  n : Nat

structure Bs.Ok (B : Bs) : Prop where
  hT : TabOk B.P B.G B.tab
  hmix : B.P.follows .mixedOrders = true

structure Fit (B : Bs) (E : Env) : Prop where
  hP : E.P = B.P
  hG : GlobsOk E B.G
  ok : B.Ok

/-- The blocks that were handed in (below 16) lie where they lay, as long as they are named. -/
def Keep (κ σ : Sig) : Prop := ∀ j, j < 16 → σ j = κ j ∨ σ j = .unset
def Good1 (E : Env) (κ : Sig) (n : Nat) (U : Nat) (s : St) (a : Act) (w : World) : Prop := ∃ σ, StR E n σ s.1 s.2 a w ∧ (∀ m, U ≤ m → σ m = .unset) ∧ Keep κ σ ∧ 16 ≤ U
def Good (E : Env) (n : Nat) (U : Nat) (s : St) (a : Act) (w : World) : Prop := ∃ E', Grow E E' ∧ Good1 E' E.kp n U s a w

abbrev Post := Exit → Nat → St → Prop

def Tri (B : Bs) (E : Env) (c : Code) (U : Nat) (s : St) (Q : Post) : Prop :=
  Fit B E → ∀ a w, Good E B.n U s a w → c.wp B.P (fun e a' w' => ∃ U' s', Good E B.n U' s' a' w' ∧ Q e U' s') a w

/-- Who knows the one knows the other. -/
def Sub (U : Nat) (s : St) (U' : Nat) (s' : St) : Prop := ∀ E n a w, Good E n U s a w → Good E n U' s' a w

theorem Sub.refl (U : Nat) (s : St) : Sub U s U s := fun _ _ _ _ h => h
theorem Sub.of_eq {U : Nat} {s s' : St} (h : s = s') : Sub U s U s' := h ▸ .refl U s
theorem Sub.trans {U U' U'' : Nat} {s s' s'' : St} (h : Sub U s U' s') (h' : Sub U' s' U'' s'') : Sub U s U'' s'' := fun E n a w g => h' E n a w (h E n a w g)
/-- Who knows the one knows the other, while no more comes to stay. -/
def Sub1 (U : Nat) (s : St) (U' : Nat) (s' : St) : Prop := ∀ E κ n a w, Good1 E κ n U s a w → Good1 E κ n U' s' a w
theorem Sub.of1 {U U' : Nat} {s s' : St} (h : Sub1 U s U' s') : Sub U s U' s' := fun _ _ _ _ ⟨E', hg, g⟩ => ⟨E', hg, h _ _ _ _ _ g⟩
theorem Sub.up {U U' : Nat} {s : St} (h : U ≤ U') : Sub U s U' s := Sub.of1 fun _ _ _ _ _ ⟨σ, h1, h2, h3, h4⟩ => ⟨σ, h1, fun m hm => h2 m (by omega), h3, by omega⟩

variable {B : Bs} {E : Env} {U : Nat} {s : St} {Q : Post}

theorem Tri.mono {c : Code} {Q' : Post} (h : Tri B E c U s Q) (hq : ∀ e U' s', Q e U' s' → Q' e U' s') : Tri B E c U s Q' :=
  fun hB a w g => wp_mono (h hB a w g) fun e a' w' ⟨U', s', h1, h2⟩ => ⟨U', s', h1, hq e U' s' h2⟩

theorem Tri.sub {c : Code} {U' : Nat} {s' : St} (hs : Sub U s U' s') (h : Tri B E c U' s' Q) : Tri B E c U s Q :=
  fun hB a w g => h hB a w (hs _ _ _ _ g)

theorem Tri.skip (h : Q .normal U s) : Tri B E .skip U s Q := fun _ a w g => wp_skip ⟨U, s, g, h⟩
theorem Tri.ret (h : Q .ret U s) : Tri B E .ret U s Q := fun _ a w g => wp_ret ⟨U, s, g, h⟩
theorem Tri.exit {id : Nat} (h : Q (.exit id) U s) : Tri B E (.exit id) U s Q := fun _ a w g => wp_exit ⟨U, s, g, h⟩

def thenP (B : Bs) (E : Env) (c : Code) (Q : Post) : Post
  | .normal, U, s => Tri B E c U s Q
  | e, U, s => Q e U s

theorem Tri.seq {c d : Code} (h : Tri B E c U s (thenP B E d Q)) : Tri B E (.seq c d) U s Q := by
  intro hB a w g
  refine wp_seq (wp_mono (h hB a w g) ?_)
  rintro e a' w' ⟨U', s', h1, h2⟩
  cases e with
  | normal => exact h2 hB a' w' h1
  | exit id => exact ⟨U', s', h1, h2⟩
  | goto l => exact ⟨U', s', h1, h2⟩
  | ret => exact ⟨U', s', h1, h2⟩
  | panic ch => exact ⟨U', s', h1, h2⟩
  | outgrown => exact ⟨U', s', h1, h2⟩

def blkP (id : Nat) (Q : Post) : Post
  | .exit id', U, s => if id' = id then Q .normal U s else Q (.exit id') U s
  | e, U, s => Q e U s

theorem Tri.block {id : Nat} {c : Code} (h : Tri B E c U s (blkP id Q)) : Tri B E (.block id c) U s Q := by
  intro hB a w g
  refine wp_block (wp_mono (h hB a w g) ?_)
  rintro e a' w' ⟨U', s', h1, h2⟩
  cases e with
  | normal => exact ⟨U', s', h1, h2⟩
  | exit id' =>
    simp only [Exit.inBlock]
    simp only [blkP] at h2
    split
    · rename_i hid
      rw [if_pos hid] at h2
      exact ⟨U', s', h1, h2⟩
    · rename_i hid
      rw [if_neg hid] at h2
      exact ⟨U', s', h1, h2⟩
  | goto l => exact ⟨U', s', h1, h2⟩
  | ret => exact ⟨U', s', h1, h2⟩
  | panic ch => exact ⟨U', s', h1, h2⟩
  | outgrown => exact ⟨U', s', h1, h2⟩

theorem Good.evalB {n : Nat} {a : Act} {w : World} {c : Operand} {x : Bool} {G : Globs} (hG : GlobsOk E G) (g : Good E n U s a w) (hc : ev G s.1 c = some (.sc (.b x))) : a.eval c = .bool x := by
  obtain ⟨E', hg, σ, h1, h2⟩ := g
  have := ev_R (hG.grow hg) h1.toFrR hc
  exact this

theorem Tri.cond {c : Operand} {x : Bool} {d e : Code} (hc : ev B.G s.1 c = some (.sc (.b x))) (ht : x = true → Tri B E d U s Q) (hf : x = false → Tri B E e U s Q) : Tri B E (.cond c d e) U s Q :=
  fun hB a w g => wp_cond_split (g.evalB hB.hG hc) (fun h => ht h hB a w g) (fun h => hf h hB a w g)

theorem Tri.cond_true {c : Operand} {d e : Code} (hc : ev B.G s.1 c = some (.sc (.b true))) (h : Tri B E d U s Q) : Tri B E (.cond c d e) U s Q :=
  Tri.cond hc (fun _ => h) (fun h => Bool.noConfusion h)

theorem Tri.cond_false {c : Operand} {d e : Code} (hc : ev B.G s.1 c = some (.sc (.b false))) (h : Tri B E e U s Q) : Tri B E (.cond c d e) U s Q :=
  Tri.cond hc (fun h => Bool.noConfusion h) (fun _ => h)

/-- Both ways come together. -/
def joinP (Um : Nat) (m : St) (Q : Post) : Post
  | .normal, U, s => Sub U s Um m
  | e, U, s => Q e U s

theorem Tri.join {c : Operand} {x : Bool} {d e : Code} (m : Bool → St) (Um : Nat) (hc : ev B.G s.1 c = some (.sc (.b x))) (ht : x = true → Tri B E d U s (joinP Um (m true) Q)) (hf : x = false → Tri B E e U s (joinP Um (m false) Q))
    (hq : Q .normal Um (m x)) : Tri B E (.cond c d e) U s Q := by
  have key : ∀ (k : Code) (y : Bool), x = y → Tri B E k U s (joinP Um (m y) Q) → Tri B E k U s Q := by
    intro k y hy h hB a w g
    subst hy
    refine wp_mono (h hB a w g) ?_
    rintro ex a' w' ⟨U', s', h1, h2⟩
    cases ex with
    | normal => exact ⟨Um, m x, h2 _ _ _ _ h1, hq⟩
    | exit id => exact ⟨U', s', h1, h2⟩
    | goto l => exact ⟨U', s', h1, h2⟩
    | ret => exact ⟨U', s', h1, h2⟩
    | panic ch => exact ⟨U', s', h1, h2⟩
    | outgrown => exact ⟨U', s', h1, h2⟩
  exact Tri.cond hc (fun h => key d true h (ht h)) (fun h => key e false h (hf h))

/-! ### regions -/
def Bs.cx (B : Bs) (hints : List (Nat × AV)) (base : Nat) : Cx := { P := B.P, G := B.G, tab := B.tab, n := B.n, hints := hints, base := base }

/-- A region: in the order of the text, or drawn; and what stays known behind it. -/
def runK (B : Bs) (hints : List (Nat × AV)) (base : Nat) (ops : Array Oper) (ms : Option (List Nat)) (kf km : List Nat) (s : St) : Option (Prop × St) :=
  match (match ms with | none => runL (B.cx hints base) ops (List.range ops.size) s | some ms => runD (B.cx hints base) ops ms s) with
  | some (C, s') => some (C, keep1 kf s'.1, keep1 km s'.2)
  | none => none

theorem Sub.keep {U : Nat} {s : St} (kf km : List Nat) : Sub U s U (keep1 kf s.1, keep1 km s.2) :=
  Sub.of1 fun _ _ _ _ _ ⟨σ, h1, h2⟩ => ⟨σ, h1.less (fun _ _ => look_of_keep1) (fun _ _ => look_of_keep1), h2⟩

theorem Tri.region {id : Nat} {ops : Array Oper} {draw : Bool} {hints : List (Nat × AV)} {ms : Option (List Nat)} {kf km : List Nat} {C : Prop} {s' : St} {U' : Nat} (h : runK B hints U ops ms kf km s = some (C, s')) (hd : ms.isSome = draw)
    (hU : Nat.ble (U + 16 * ops.size) U' = true) (hC : C) (hq : Q .normal U' s') : Tri B E (.region id ops draw) U s Q := by
  intro hB a w ⟨E1, hg1, σ, h1, h2, hk, h16⟩
  have hU' := Nat.le_of_ble_eq_true hU
  unfold runK at h
  have fin : ∀ s1 : St, (keep1 kf s1.1, keep1 km s1.2) = s' → ∀ E' σ' a' w', Grow E1 E' → Ext σ σ' → (∀ m, (m < U ∨ U + 16 * ops.size ≤ m) → σ' m = σ m) → StR E' B.n σ' s1.1 s1.2 a' w' → ∃ U' s', Good E B.n U' s' a' w' ∧ Q .normal U' s' := by
    intro s1 he E' σ' a' w' hg hx ho hs
    subst he
    refine ⟨U', _, ?_, hq⟩
    exact Sub.keep kf km _ _ _ _ ⟨E', hg1.trans hg, σ', hs, fun m hm => by rw [ho m (by omega)]; exact h2 m (by omega), fun j hj => by rw [ho j (by omega)]; exact hk j hj, by omega⟩
  cases ms with
  | none =>
    simp only at h
    simp only [Option.isSome_none] at hd
    subst hd
    split at h
    · rename_i C1 s1 h3
      simp only [Option.some.injEq, Prod.mk.injEq] at h
      obtain ⟨rfl, h4⟩ := h
      exact runL_region (X := B.cx hints U) (hg1.P.trans hB.hP) (hB.hG.grow hg1) hB.ok.hT h1 (fun m hm1 _ => h2 m hm1) h3 hC (fin s1 h4)
    · cases h
  | some ms =>
    simp only at h
    simp only [Option.isSome_some] at hd
    subst hd
    split at h
    · rename_i C1 s1 h3
      simp only [Option.some.injEq, Prod.mk.injEq] at h
      obtain ⟨rfl, h4⟩ := h
      exact runD_wp (X := B.cx hints U) (hg1.P.trans hB.hP) (hB.hG.grow hg1) hB.ok.hT hB.ok.hmix h1 (fun m hm1 _ => h2 m hm1) h3 hC (fin s1 h4)
    · cases h

/-! ### other names -/
abbrev Ren := List (Nat × Nat)

def Sc.ren (ns : Ren) : Sc → Option Sc
  | .p g o => match look g ns with | some c => some (.p c o) | none => none
  | .sl g off len es cap => match look g ns with | some c => some (.sl c off len es cap) | none => none
  | s => some s

def renL (ns : Ren) : List Sc → Option (List Sc)
  | [] => some []
  | s :: r => match s.ren ns, renL ns r with
    | some s', some r' => some (s' :: r')
    | _, _ => none

def A1.ren (ns : Ren) : A1 → Option A1
  | .sc s => match s.ren ns with | some s' => some (.sc s') | none => none
  | .agg l => match renL ns l with | some l' => some (.agg l') | none => none
  | .ints k n xs => some (.ints k n xs)

def renA1 (ns : Ren) : List A1 → Option (List A1)
  | [] => some []
  | s :: r => match s.ren ns, renA1 ns r with
    | some s', some r' => some (s' :: r')
    | _, _ => none

def AV.ren (ns : Ren) : AV → Option AV
  | .sc s => match s.ren ns with | some s' => some (.sc s') | none => none
  | .agg l => match renL ns l with | some l' => some (.agg l') | none => none
  | .ints k n xs => some (.ints k n xs)
  | .tup l => match renA1 ns l with | some l' => some (.tup l') | none => none

def Blk.ren (ns : Ren) : Blk → Option Blk
  | .ints k n xs => some (.ints k n xs)
  | .cells l => match renL ns l with | some l' => some (.cells l') | none => none
  | .vec v xs => some (.vec v xs)

def renFr (ns : Ren) (fr : Fr) : List Nat → Option Fr
  | [] => some []
  | t :: r => match look t fr with
    | none => none
    | some v => match v.ren ns, renFr ns fr r with
      | some v', some fr' => some ((t, v') :: fr')
      | _, _ => none

def renMem (ns : Ren) (M : Mem) : Ren → Option Mem
  | [] => some []
  | (b, c) :: r => match look b M with
    | none => none
    | some k => match k.ren ns, renMem ns M r with
      | some k', some M' => some ((c, k') :: M')
      | _, _ => none

def turned (ns : Ren) : Ren := ns.map fun p => (p.2, p.1)

/-- Each name has one other, and the other way round; the others are below U. -/
def renOk (ns : Ren) (U : Nat) : Bool :=
  ns.all fun p => (match look p.2 (turned ns) with | some b => Nat.beq b p.1 | none => false) && (match look p.1 ns with | some c => Nat.beq c p.2 | none => false) && Nat.blt p.2 U

def sigOf (σ : Sig) (ns : Ren) : Sig := fun c => match look c (turned ns) with
  | some b => σ b
  | none => .unset

theorem look_mem {α : Type} {b : Nat} {c : α} : ∀ {l : List (Nat × α)}, look b l = some c → (b, c) ∈ l
  | [], h => by cases h
  | (m, v) :: r, h => by
    simp only [look] at h
    by_cases e : m = b
    · subst e
      simp only [beqT, cond_true, Option.some.injEq] at h
      subst h
      exact List.mem_cons_self
    · simp only [beqF e, cond_false] at h
      exact List.mem_cons_of_mem _ (look_mem h)

theorem renOk_at {ns : Ren} {U b c : Nat} (h : renOk ns U = true) (hb : look b ns = some c) : look c (turned ns) = some b ∧ c < U := by
  unfold renOk at h
  rw [List.all_eq_true] at h
  have h1 := h _ (look_mem hb)
  simp only [Bool.and_eq_true] at h1
  obtain ⟨⟨h1, h3⟩, h2⟩ := h1
  refine ⟨?_, ?_⟩
  · split at h1
    · rename_i b' hb'
      rw [hb', Nat.eq_of_beq_eq_true h1]
    · cases h1
  · have := Nat.le_of_ble_eq_true (show Nat.ble (c + 1) U = true from h2)
    omega

section
variable {σ : Sig} {ns : Ren}

theorem sigOf_at (h : renOk ns U = true) {b c : Nat} (hb : look b ns = some c) : sigOf σ ns c = σ b := by
  unfold sigOf
  rw [(renOk_at h hb).1]

theorem Sc.ren_R (h : renOk ns U = true) : ∀ {x x' : Sc} {V : Value}, x.ren ns = some x' → ScR E σ x V → ScR E (sigOf σ ns) x' V
  | .b _, _, _, h1, h2 | .i _ _, _, _, h1, h2 | .s _, _, _, h1, h2 | .nilp, _, _, h1, h2 | .nils, _, _, h1, h2 | .ro _ _, _, _, h1, h2 | .ros _, _, _, h1, h2 | .rob _, _, _, h1, h2 | .rp _ _ _, _, _, h1, h2
  | .rps _, _, _, h1, h2 | .rpb _, _, _, h1, h2 | .raw _, _, _, h1, h2 => by
    simp only [Sc.ren, Option.some.injEq] at h1
    subst h1
    exact h2
  | .p g o, x', V, h1, h2 => by
    simp only [Sc.ren] at h1
    split at h1
    · rename_i c hc
      simp only [Option.some.injEq] at h1
      subst h1
      obtain ⟨L, e1, e2⟩ := h2
      exact ⟨L, by rw [sigOf_at h hc]; exact e1, e2⟩
    · cases h1
  | .sl g off len es cap, x', V, h1, h2 => by
    simp only [Sc.ren] at h1
    split at h1
    · rename_i c hc
      simp only [Option.some.injEq] at h1
      subst h1
      rcases h2 with h2 | ⟨L, c', e1, e2⟩
      · exact .inl h2
      · exact .inr ⟨L, c', by rw [sigOf_at h hc]; exact e1, e2⟩
    · cases h1

theorem renL_R (h : renOk ns U = true) : ∀ {l l' : List Sc} {m : List Value}, renL ns l = some l' → All2 (ScR E σ) l m → All2 (ScR E (sigOf σ ns)) l' m
  | [], l', m, h1, h2 => by
    simp only [renL, Option.some.injEq] at h1
    subst h1
    cases m with
    | nil => trivial
    | cons _ _ => exact h2.elim
  | x :: r, l', m, h1, h2 => by
    simp only [renL] at h1
    split at h1
    · rename_i x' r' e1 e2
      simp only [Option.some.injEq] at h1
      subst h1
      cases m with
      | nil => exact h2.elim
      | cons V m => exact ⟨Sc.ren_R h e1 h2.1, renL_R h e2 h2.2⟩
    · cases h1

theorem A1.ren_R (h : renOk ns U = true) {v v' : A1} {V : Value} (h1 : v.ren ns = some v') (h2 : A1R E σ v V) : A1R E (sigOf σ ns) v' V := by
  cases v with
  | sc x =>
    simp only [A1.ren] at h1
    split at h1
    · rename_i x' e
      simp only [Option.some.injEq] at h1
      subst h1
      exact Sc.ren_R h e h2
    · cases h1
  | agg l =>
    simp only [A1.ren] at h1
    split at h1
    · rename_i x' e
      simp only [Option.some.injEq] at h1
      subst h1
      obtain ⟨arr, e1, e2⟩ := h2
      exact ⟨arr, e1, renL_R h e e2⟩
    · cases h1
  | ints k n xs =>
    simp only [A1.ren, Option.some.injEq] at h1
    subst h1
    exact h2

theorem renA1_R (h : renOk ns U = true) : ∀ {l l' : List A1} {m : List Value}, renA1 ns l = some l' → All2 (A1R E σ) l m → All2 (A1R E (sigOf σ ns)) l' m
  | [], l', m, h1, h2 => by
    simp only [renA1, Option.some.injEq] at h1
    subst h1
    cases m with
    | nil => trivial
    | cons _ _ => exact h2.elim
  | x :: r, l', m, h1, h2 => by
    simp only [renA1] at h1
    split at h1
    · rename_i x' r' e1 e2
      simp only [Option.some.injEq] at h1
      subst h1
      cases m with
      | nil => exact h2.elim
      | cons V m => exact ⟨A1.ren_R h e1 h2.1, renA1_R h e2 h2.2⟩
    · cases h1

theorem AV.ren_R (h : renOk ns U = true) {v v' : AV} {V : Value} (h1 : v.ren ns = some v') (h2 : AVR E σ v V) : AVR E (sigOf σ ns) v' V := by
  cases v with
  | sc x =>
    simp only [AV.ren] at h1
    split at h1
    · rename_i x' e
      simp only [Option.some.injEq] at h1
      subst h1
      exact Sc.ren_R h e h2
    · cases h1
  | agg l =>
    simp only [AV.ren] at h1
    split at h1
    · rename_i x' e
      simp only [Option.some.injEq] at h1
      subst h1
      obtain ⟨arr, e1, e2⟩ := h2
      exact ⟨arr, e1, renL_R h e e2⟩
    · cases h1
  | ints k n xs =>
    simp only [AV.ren, Option.some.injEq] at h1
    subst h1
    exact h2
  | tup l =>
    simp only [AV.ren] at h1
    split at h1
    · rename_i x' e
      simp only [Option.some.injEq] at h1
      subst h1
      obtain ⟨arr, e1, e2⟩ := h2
      exact ⟨arr, e1, renA1_R h e e2⟩
    · cases h1

theorem renL_get (h : renOk ns U = true) : ∀ {l l' : List Sc}, renL ns l = some l' → l'.length = l.length ∧ ∀ (j : Nat) (x' : Sc), l'[j]? = some x' → ∃ x, l[j]? = some x ∧ x.ren ns = some x'
  | [], l', h1 => by
    simp only [renL, Option.some.injEq] at h1
    subst h1
    exact ⟨rfl, fun j x' hx => by simp at hx⟩
  | x :: r, l', h1 => by
    simp only [renL] at h1
    split at h1
    · rename_i y r' e1 e2
      simp only [Option.some.injEq] at h1
      subst h1
      obtain ⟨q1, q2⟩ := renL_get h e2
      refine ⟨by simp [q1], fun j x' hx => ?_⟩
      cases j with
      | zero => simp at hx; subst hx; exact ⟨x, rfl, e1⟩
      | succ j => simpa using q2 j x' (by simpa using hx)
    · cases h1

theorem Blk.ren_R (h : renOk ns U = true) {w : World} {k k' : Blk} {L : Pl} (h1 : k.ren ns = some k') (h2 : BlkR E σ w k L) : BlkR E (sigOf σ ns) w k' L := by
  cases k with
  | ints kk n xs =>
    simp only [Blk.ren, Option.some.injEq] at h1
    subst h1
    cases L with
    | unset => exact h2
    | nil => exact h2
    | «at» L =>
      obtain ⟨g1, arr, elem, lo, hi, q1, q2, q3, q4, q5, q6⟩ := h2
      refine ⟨g1, arr, elem, lo, hi, q1, q2, q3, q4, q5, fun j x hx => ?_⟩
      obtain ⟨v, e1, e2⟩ := q6 j x hx
      refine ⟨v, e1, ?_⟩
      simp only [Blk.get?, Option.map_eq_some_iff] at hx
      obtain ⟨_, _, rfl⟩ := hx
      exact e2
  | cells l =>
    simp only [Blk.ren] at h1
    split at h1
    · rename_i l' e
      simp only [Option.some.injEq] at h1
      subst h1
      obtain ⟨r1, r2⟩ := renL_get h e
      cases L with
      | unset => exact h2
      | nil => exact ⟨by have := h2.1; simp only [Blk.len] at this ⊢; rw [r1]; exact this, trivial⟩
      | «at» L =>
        obtain ⟨g1, arr, elem, lo, hi, q1, q2, q3, q4, q5, q6⟩ := h2
        refine ⟨trivial, arr, elem, lo, hi, q1, q2, by simp only [Blk.len] at q3 ⊢; rw [r1]; exact q3, q4, q5, fun j x hx => ?_⟩
        obtain ⟨y, e1, e2⟩ := r2 j x hx
        obtain ⟨v, e3, e4⟩ := q6 j y e1
        exact ⟨v, e3, Sc.ren_R h e2 e4⟩
    · cases h1
  | vec vk xs =>
    simp only [Blk.ren, Option.some.injEq] at h1
    subst h1
    cases L with
    | unset => exact h2
    | nil => exact h2
    | «at» L =>
      obtain ⟨g1, arr, elem, lo, hi, q1, q2, q3, q4, q5, q6⟩ := h2
      refine ⟨g1, arr, elem, lo, hi, q1, q2, q3, q4, q5, fun j x hx => ?_⟩
      obtain ⟨v, e1, e2⟩ := q6 j x hx
      refine ⟨v, e1, ?_⟩
      simp only [Blk.get?, Option.map_eq_some_iff] at hx
      obtain ⟨_, _, rfl⟩ := hx
      cases vk <;> exact e2

theorem renFr_look {fr fr' : Fr} : ∀ {kf : List Nat}, renFr ns fr kf = some fr' → ∀ t v', look t fr' = some v' → ∃ v, look t fr = some v ∧ v.ren ns = some v' := by
  intro kf
  induction kf generalizing fr' with
  | nil =>
    intro h t v' ht
    simp only [renFr, Option.some.injEq] at h
    subst h
    cases ht
  | cons t0 r ih =>
    intro h t v' ht
    simp only [renFr] at h
    split at h
    · cases h
    · rename_i v hv
      split at h
      · rename_i v1 fr1 e1 e2
        simp only [Option.some.injEq] at h
        subst h
        simp only [look] at ht
        by_cases e : t0 = t
        · subst e
          simp only [beqT, cond_true, Option.some.injEq] at ht
          subst ht
          exact ⟨v, hv, e1⟩
        · simp only [beqF e, cond_false] at ht
          exact ih e2 t v' ht
      · cases h

theorem renMem_look {M M' : Mem} : ∀ {rs : Ren}, renMem ns M rs = some M' → ∀ c k', look c M' = some k' → ∃ b k, (b, c) ∈ rs ∧ look b M = some k ∧ k.ren ns = some k' := by
  intro rs
  induction rs generalizing M' with
  | nil =>
    intro h t v' ht
    simp only [renMem, Option.some.injEq] at h
    subst h
    cases ht
  | cons p r ih =>
    obtain ⟨b0, c0⟩ := p
    intro h t v' ht
    simp only [renMem] at h
    split at h
    · cases h
    · rename_i v hv
      split at h
      · rename_i v1 fr1 e1 e2
        simp only [Option.some.injEq] at h
        subst h
        simp only [look] at ht
        by_cases e : c0 = t
        · subst e
          simp only [beqT, cond_true, Option.some.injEq] at ht
          subst ht
          exact ⟨b0, v, List.mem_cons_self, hv, e1⟩
        · simp only [beqF e, cond_false] at ht
          obtain ⟨b, k, q1, q2⟩ := ih e2 t v' ht
          exact ⟨b, k, List.mem_cons_of_mem _ q1, q2⟩
      · cases h
end

theorem renOk_mem {ns : Ren} {U b c : Nat} (h : renOk ns U = true) (hb : (b, c) ∈ ns) : look c (turned ns) = some b ∧ c < U ∧ look b ns = some c := by
  unfold renOk at h
  rw [List.all_eq_true] at h
  have h1 := h _ hb
  simp only [Bool.and_eq_true] at h1
  obtain ⟨⟨h1, h3⟩, h2⟩ := h1
  refine ⟨?_, ?_, ?_⟩
  · split at h1
    · rename_i b' hb'
      rw [hb', Nat.eq_of_beq_eq_true h1]
    · cases h1
  · have := Nat.le_of_ble_eq_true (show Nat.ble (c + 1) U = true from h2)
    omega
  · split at h3
    · rename_i b' hb'
      rw [hb', Nat.eq_of_beq_eq_true h3]
    · cases h3

/-- Some temps and blocks, under other names. -/
def renSt (ns : Ren) (kf : List Nat) (s : St) : Option St :=
  match renFr ns s.1 kf, renMem ns s.2 ns with
  | some fr, some M => some (fr, M)
  | _, _ => none

theorem StR.ren {n : Nat} {σ : Sig} {ns : Ren} {kf : List Nat} {s s' : St} {a : Act} {w : World} (h : renOk ns U = true) (hs : renSt ns kf s = some s') (hR : StR E n σ s.1 s.2 a w) : StR E n (sigOf σ ns) s'.1 s'.2 a w := by
  unfold renSt at hs
  split at hs
  · rename_i fr M e1 e2
    simp only [Option.some.injEq] at hs
    subst hs
    refine { val := ?_, defers := hR.defers, tmps := hR.tmps, blk := ?_, inj := ?_, old := hR.old, size := hR.size, olds := hR.olds, os := hR.os, tape := hR.tape, output := hR.output }
    · intro t v' ht
      obtain ⟨v, q1, q2⟩ := renFr_look e1 t v' ht
      obtain ⟨V, q3, q4⟩ := hR.val t v q1
      exact ⟨V, q3, AV.ren_R h q2 q4⟩
    · intro c k' hc
      obtain ⟨b, k, q0, q1, q2⟩ := renMem_look e2 c k' hc
      have := hR.blk b k q1
      have hbc : sigOf σ ns c = σ b := by
        unfold sigOf
        rw [(renOk_mem h q0).1]
      rw [hbc]
      exact Blk.ren_R h q2 this
    · intro b c x y L L' hb hc hL hL' hg
      obtain ⟨b1, k1, q0, q1, q2⟩ := renMem_look e2 b x hb
      obtain ⟨c1, k2, q3, q4, q5⟩ := renMem_look e2 c y hc
      have h1 : sigOf σ ns b = σ b1 := by
        unfold sigOf
        rw [(renOk_mem h q0).1]
      have h2 : sigOf σ ns c = σ c1 := by
        unfold sigOf
        rw [(renOk_mem h q3).1]
      have := hR.inj b1 c1 k1 k2 L L' q1 q4 (h1 ▸ hL) (h2 ▸ hL') hg
      subst this
      have e1 := (renOk_mem h q0).2.2
      have e2 := (renOk_mem h q3).2.2
      rw [e1] at e2
      injection e2
  · cases hs

end Go.Vm
