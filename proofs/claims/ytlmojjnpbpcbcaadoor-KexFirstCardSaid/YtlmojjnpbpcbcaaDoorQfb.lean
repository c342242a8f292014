/- A part of a proof: the small machine that walks the program, the walks of its functions, and what they compute in plain. -/
import Derived.Test.YtlmojjnpbpcbcaaDoorQfa
import Derived.Deep.LoopGhost
import Derived.Laws.Externs
import Derived.Below
import Derived.OpenShut
import Derived.DataShut
import Derived.ChangeSlices
import Derived.SliceStrings
import Derived.LaidMore
import Derived.Lib.Bytealg
import Derived.Lib.Join
import Derived.Laws.RangeAny
import Derived.LoopN
import Derived.Shelf.Strings.OnBuilder
import Derived.Shelf.LaysM
import Derived.Test.YtlmojjnpbpcbcaaDoorProg
import Derived.Test.YtlmojjnpbpcbcaaDoorChecked
import Derived.Test.YtlmojjnpbpcbcaaDoorRows
import Derived.Stop.Joined
set_option linter.unusedVariables false
set_option linter.unusedSimpArgs false
namespace Go.Vm
open Go
structure Bs where
  P : Program
  G : Globs
  tab : Tab
  n : Nat
structure Bs.Ok (B : Bs) : Prop where
  hT : TabOk B.P B.G B.tab
  hmix : B.P.follows .mixedOrders = true
structure Fit (B : Bs) (E : Env) : Prop where
  hP : E.P = B.P
  hG : GlobsOk E B.G
  ok : B.Ok
def Keep (κ σ : Sig) : Prop := ∀ j, j < 16 → σ j = κ j ∨ σ j = .unset
def Good1 (E : Env) (κ : Sig) (n : Nat) (U : Nat) (s : St) (a : Act) (w : World) : Prop := ∃ σ, StR E n σ s.1 s.2 a w ∧ (∀ m, U ≤ m → σ m = .unset) ∧ Keep κ σ ∧ 16 ≤ U
def Good (E : Env) (n : Nat) (U : Nat) (s : St) (a : Act) (w : World) : Prop := ∃ E', Grow E E' ∧ Good1 E' E.kp n U s a w
abbrev Post := Exit → Nat → St → Prop
def Tri (B : Bs) (E : Env) (c : Code) (U : Nat) (s : St) (Q : Post) : Prop :=
  Fit B E → ∀ a w, Good E B.n U s a w → c.wp B.P (fun e a' w' => ∃ U' s', Good E B.n U' s' a' w' ∧ Q e U' s') a w
def Sub (U : Nat) (s : St) (U' : Nat) (s' : St) : Prop := ∀ E n a w, Good E n U s a w → Good E n U' s' a w
theorem Sub.refl (U : Nat) (s : St) : Sub U s U s := fun _ _ _ _ h => h
theorem Sub.of_eq {U : Nat} {s s' : St} (h : s = s') : Sub U s U s' := h ▸ .refl U s
theorem Sub.trans {U U' U'' : Nat} {s s' s'' : St} (h : Sub U s U' s') (h' : Sub U' s' U'' s'') : Sub U s U'' s'' := fun E n a w g => h' E n a w (h E n a w g)
def Sub1 (U : Nat) (s : St) (U' : Nat) (s' : St) : Prop := ∀ E κ n a w, Good1 E κ n U s a w → Good1 E κ n U' s' a w
theorem Sub.of1 {U U' : Nat} {s s' : St} (h : Sub1 U s U' s') : Sub U s U' s' := fun _ _ _ _ ⟨E', hg, g⟩ => ⟨E', hg, h _ _ _ _ _ g⟩
theorem Sub.up {U U' : Nat} {s : St} (h : U ≤ U') : Sub U s U' s := Sub.of1 fun _ _ _ _ _ ⟨σ, h1, h2, h3, h4⟩ => ⟨σ, h1, fun m hm => h2 m (by omega), h3, by omega⟩
variable {B : Bs} {E : Env} {U : Nat} {s : St} {Q : Post}
theorem Tri.mono {c : Code} {Q' : Post} (h : Tri B E c U s Q) (hq : ∀ e U' s', Q e U' s' → Q' e U' s') : Tri B E c U s Q' :=
  fun hB a w g => wp_mono (h hB a w g) fun e a' w' ⟨U', s', h1, h2⟩ => ⟨U', s', h1, hq e U' s' h2⟩
theorem Tri.sub {c : Code} {U' : Nat} {s' : St} (hs : Sub U s U' s') (h : Tri B E c U' s' Q) : Tri B E c U s Q :=
  fun hB a w g => h hB a w (hs _ _ _ _ g)
theorem Tri.skip (h : Q .normal U s) : Tri B E .skip U s Q := fun _ a w g => wp_skip ⟨U, s, g, h⟩
theorem Tri.ret (h : Q .ret U s) : Tri B E .ret U s Q := fun _ a w g => wp_ret ⟨U, s, g, h⟩
theorem Tri.exit {id : Nat} (h : Q (.exit id) U s) : Tri B E (.exit id) U s Q := fun _ a w g => wp_exit ⟨U, s, g, h⟩
def thenP (B : Bs) (E : Env) (c : Code) (Q : Post) : Post
  | .normal, U, s => Tri B E c U s Q
  | e, U, s => Q e U s
theorem Tri.seq {c d : Code} (h : Tri B E c U s (thenP B E d Q)) : Tri B E (.seq c d) U s Q := by
  intro hB a w g
  refine wp_seq (wp_mono (h hB a w g) ?_)
  rintro e a' w' ⟨U', s', h1, h2⟩
  cases e with
  | normal => exact h2 hB a' w' h1
  | exit id => exact ⟨U', s', h1, h2⟩
  | goto l => exact ⟨U', s', h1, h2⟩
  | ret => exact ⟨U', s', h1, h2⟩
  | panic ch => exact ⟨U', s', h1, h2⟩
  | outgrown => exact ⟨U', s', h1, h2⟩
def blkP (id : Nat) (Q : Post) : Post
  | .exit id', U, s => if id' = id then Q .normal U s else Q (.exit id') U s
  | e, U, s => Q e U s
theorem Tri.block {id : Nat} {c : Code} (h : Tri B E c U s (blkP id Q)) : Tri B E (.block id c) U s Q := by
  intro hB a w g
  refine wp_block (wp_mono (h hB a w g) ?_)
  rintro e a' w' ⟨U', s', h1, h2⟩
  cases e with
  | normal => exact ⟨U', s', h1, h2⟩
  | exit id' =>
    simp only [Exit.inBlock]
    simp only [blkP] at h2
    split
    · rename_i hid
      rw [if_pos hid] at h2
      exact ⟨U', s', h1, h2⟩
    · rename_i hid
      rw [if_neg hid] at h2
      exact ⟨U', s', h1, h2⟩
  | goto l => exact ⟨U', s', h1, h2⟩
  | ret => exact ⟨U', s', h1, h2⟩
  | panic ch => exact ⟨U', s', h1, h2⟩
  | outgrown => exact ⟨U', s', h1, h2⟩
theorem Good.evalB {n : Nat} {a : Act} {w : World} {c : Operand} {x : Bool} {G : Globs} (hG : GlobsOk E G) (g : Good E n U s a w) (hc : ev G s.1 c = some (.sc (.b x))) : a.eval c = .bool x := by
  obtain ⟨E', hg, σ, h1, h2⟩ := g
  have := ev_R (hG.grow hg) h1.toFrR hc
  exact this
theorem Tri.cond {c : Operand} {x : Bool} {d e : Code} (hc : ev B.G s.1 c = some (.sc (.b x))) (ht : x = true → Tri B E d U s Q) (hf : x = false → Tri B E e U s Q) : Tri B E (.cond c d e) U s Q :=
  fun hB a w g => wp_cond_split (g.evalB hB.hG hc) (fun h => ht h hB a w g) (fun h => hf h hB a w g)
theorem Tri.cond_true {c : Operand} {d e : Code} (hc : ev B.G s.1 c = some (.sc (.b true))) (h : Tri B E d U s Q) : Tri B E (.cond c d e) U s Q :=
  Tri.cond hc (fun _ => h) (fun h => Bool.noConfusion h)
theorem Tri.cond_false {c : Operand} {d e : Code} (hc : ev B.G s.1 c = some (.sc (.b false))) (h : Tri B E e U s Q) : Tri B E (.cond c d e) U s Q :=
  Tri.cond hc (fun h => Bool.noConfusion h) (fun _ => h)
def joinP (Um : Nat) (m : St) (Q : Post) : Post
  | .normal, U, s => Sub U s Um m
  | e, U, s => Q e U s
theorem Tri.join {c : Operand} {x : Bool} {d e : Code} (m : Bool → St) (Um : Nat) (hc : ev B.G s.1 c = some (.sc (.b x))) (ht : x = true → Tri B E d U s (joinP Um (m true) Q)) (hf : x = false → Tri B E e U s (joinP Um (m false) Q))
    (hq : Q .normal Um (m x)) : Tri B E (.cond c d e) U s Q := by
  have key : ∀ (k : Code) (y : Bool), x = y → Tri B E k U s (joinP Um (m y) Q) → Tri B E k U s Q := by
    intro k y hy h hB a w g
    subst hy
    refine wp_mono (h hB a w g) ?_
    rintro ex a' w' ⟨U', s', h1, h2⟩
    cases ex with
    | normal => exact ⟨Um, m x, h2 _ _ _ _ h1, hq⟩
    | exit id => exact ⟨U', s', h1, h2⟩
    | goto l => exact ⟨U', s', h1, h2⟩
    | ret => exact ⟨U', s', h1, h2⟩
    | panic ch => exact ⟨U', s', h1, h2⟩
    | outgrown => exact ⟨U', s', h1, h2⟩
  exact Tri.cond hc (fun h => key d true h (ht h)) (fun h => key e false h (hf h))
def Bs.cx (B : Bs) (hints : List (Nat × AV)) (base : Nat) : Cx := { P := B.P, G := B.G, tab := B.tab, n := B.n, hints := hints, base := base }
def runK (B : Bs) (hints : List (Nat × AV)) (base : Nat) (ops : Array Oper) (ms : Option (List Nat)) (kf km : List Nat) (s : St) : Option (Prop × St) :=
  match (match ms with | none => runL (B.cx hints base) ops (List.range ops.size) s | some ms => runD (B.cx hints base) ops ms s) with
  | some (C, s') => some (C, keep1 kf s'.1, keep1 km s'.2)
  | none => none
theorem Sub.keep {U : Nat} {s : St} (kf km : List Nat) : Sub U s U (keep1 kf s.1, keep1 km s.2) :=
  Sub.of1 fun _ _ _ _ _ ⟨σ, h1, h2⟩ => ⟨σ, h1.less (fun _ _ => look_of_keep1) (fun _ _ => look_of_keep1), h2⟩
theorem Tri.region {id : Nat} {ops : Array Oper} {draw : Bool} {hints : List (Nat × AV)} {ms : Option (List Nat)} {kf km : List Nat} {C : Prop} {s' : St} {U' : Nat} (h : runK B hints U ops ms kf km s = some (C, s')) (hd : ms.isSome = draw)
    (hU : Nat.ble (U + 16 * ops.size) U' = true) (hC : C) (hq : Q .normal U' s') : Tri B E (.region id ops draw) U s Q := by
  intro hB a w ⟨E1, hg1, σ, h1, h2, hk, h16⟩
  have hU' := Nat.le_of_ble_eq_true hU
  unfold runK at h
  have fin : ∀ s1 : St, (keep1 kf s1.1, keep1 km s1.2) = s' → ∀ E' σ' a' w', Grow E1 E' → Ext σ σ' → (∀ m, (m < U ∨ U + 16 * ops.size ≤ m) → σ' m = σ m) → StR E' B.n σ' s1.1 s1.2 a' w' → ∃ U' s', Good E B.n U' s' a' w' ∧ Q .normal U' s' := by
    intro s1 he E' σ' a' w' hg hx ho hs
    subst he
    refine ⟨U', _, ?_, hq⟩
    exact Sub.keep kf km _ _ _ _ ⟨E', hg1.trans hg, σ', hs, fun m hm => by rw [ho m (by omega)]; exact h2 m (by omega), fun j hj => by rw [ho j (by omega)]; exact hk j hj, by omega⟩
  cases ms with
  | none =>
    simp only at h
    simp only [Option.isSome_none] at hd
    subst hd
    split at h
    · rename_i C1 s1 h3
      simp only [Option.some.injEq, Prod.mk.injEq] at h
      obtain ⟨rfl, h4⟩ := h
      exact runL_region (X := B.cx hints U) (hg1.P.trans hB.hP) (hB.hG.grow hg1) hB.ok.hT h1 (fun m hm1 _ => h2 m hm1) h3 hC (fin s1 h4)
    · cases h
  | some ms =>
    simp only at h
    simp only [Option.isSome_some] at hd
    subst hd
    split at h
    · rename_i C1 s1 h3
      simp only [Option.some.injEq, Prod.mk.injEq] at h
      obtain ⟨rfl, h4⟩ := h
      exact runD_wp (X := B.cx hints U) (hg1.P.trans hB.hP) (hB.hG.grow hg1) hB.ok.hT hB.ok.hmix h1 (fun m hm1 _ => h2 m hm1) h3 hC (fin s1 h4)
    · cases h
abbrev Ren := List (Nat × Nat)
def Sc.ren (ns : Ren) : Sc → Option Sc
  | .p g o => match look g ns with | some c => some (.p c o) | none => none
  | .sl g off len es cap => match look g ns with | some c => some (.sl c off len es cap) | none => none
  | .clo f g d => match look g ns, look d ns with | some c, some e => some (.clo f c e) | _, _ => none
  | s => some s
def renL (ns : Ren) : List Sc → Option (List Sc)
  | [] => some []
  | s :: r => match s.ren ns, renL ns r with
    | some s', some r' => some (s' :: r')
    | _, _ => none
def A1.ren (ns : Ren) : A1 → Option A1
  | .sc s => match s.ren ns with | some s' => some (.sc s') | none => none
  | .agg l => match renL ns l with | some l' => some (.agg l') | none => none
  | .ints k n xs => some (.ints k n xs)
  | .arr v xs => some (.arr v xs)
def renA1 (ns : Ren) : List A1 → Option (List A1)
  | [] => some []
  | s :: r => match s.ren ns, renA1 ns r with
    | some s', some r' => some (s' :: r')
    | _, _ => none
def AV.ren (ns : Ren) : AV → Option AV
  | .sc s => match s.ren ns with | some s' => some (.sc s') | none => none
  | .agg l => match renL ns l with | some l' => some (.agg l') | none => none
  | .ints k n xs => some (.ints k n xs)
  | .tup l => match renA1 ns l with | some l' => some (.tup l') | none => none
  | .arr v xs => some (.arr v xs)
def Blk.ren (ns : Ren) : Blk → Option Blk
  | .ints k n xs => some (.ints k n xs)
  | .cells l => match renL ns l with | some l' => some (.cells l') | none => none
  | .vec v xs => some (.vec v xs)
def renFr (ns : Ren) (fr : Fr) : List Nat → Option Fr
  | [] => some []
  | t :: r => match look t fr with
    | none => none
    | some v => match v.ren ns, renFr ns fr r with
      | some v', some fr' => some ((t, v') :: fr')
      | _, _ => none
def renMem (ns : Ren) (M : Mem) : Ren → Option Mem
  | [] => some []
  | (b, c) :: r => match look b M with
    | none => none
    | some k => match k.ren ns, renMem ns M r with
      | some k', some M' => some ((c, k') :: M')
      | _, _ => none
def turned (ns : Ren) : Ren := ns.map fun p => (p.2, p.1)
def renOk (ns : Ren) (U : Nat) : Bool :=
  ns.all fun p => (match look p.2 (turned ns) with | some b => Nat.beq b p.1 | none => false) && (match look p.1 ns with | some c => Nat.beq c p.2 | none => false) && Nat.blt p.2 U
def sigOf (σ : Sig) (ns : Ren) : Sig := fun c => match look c (turned ns) with
  | some b => σ b
  | none => .unset
theorem look_mem {α : Type} {b : Nat} {c : α} : ∀ {l : List (Nat × α)}, look b l = some c → (b, c) ∈ l
  | [], h => by cases h
  | (m, v) :: r, h => by
    simp only [look] at h
    by_cases e : m = b
    · subst e
      simp only [beqT, cond_true, Option.some.injEq] at h
      subst h
      exact List.mem_cons_self
    · simp only [beqF e, cond_false] at h
      exact List.mem_cons_of_mem _ (look_mem h)
theorem renOk_at {ns : Ren} {U b c : Nat} (h : renOk ns U = true) (hb : look b ns = some c) : look c (turned ns) = some b ∧ c < U := by
  unfold renOk at h
  rw [List.all_eq_true] at h
  have h1 := h _ (look_mem hb)
  simp only [Bool.and_eq_true] at h1
  obtain ⟨⟨h1, h3⟩, h2⟩ := h1
  refine ⟨?_, ?_⟩
  · split at h1
    · rename_i b' hb'
      rw [hb', Nat.eq_of_beq_eq_true h1]
    · cases h1
  · have := Nat.le_of_ble_eq_true (show Nat.ble (c + 1) U = true from h2)
    omega
section
variable {σ : Sig} {ns : Ren}
theorem sigOf_at (h : renOk ns U = true) {b c : Nat} (hb : look b ns = some c) : sigOf σ ns c = σ b := by
  unfold sigOf
  rw [(renOk_at h hb).1]
theorem Sc.ren_R (h : renOk ns U = true) : ∀ {x x' : Sc} {V : Value}, x.ren ns = some x' → ScR E σ x V → ScR E (sigOf σ ns) x' V
  | .b _, _, _, h1, h2 | .i _ _, _, _, h1, h2 | .s _, _, _, h1, h2 | .nilp, _, _, h1, h2 | .nils, _, _, h1, h2 | .ro _ _, _, _, h1, h2 | .ros _, _, _, h1, h2 | .rob _, _, _, h1, h2 | .rp _ _ _, _, _, h1, h2
  | .rps _, _, _, h1, h2 | .rpb _, _, _, h1, h2 | .raw _, _, _, h1, h2 => by
    simp only [Sc.ren, Option.some.injEq] at h1
    subst h1
    exact h2
  | .p g o, x', V, h1, h2 => by
    simp only [Sc.ren] at h1
    split at h1
    · rename_i c hc
      simp only [Option.some.injEq] at h1
      subst h1
      obtain ⟨L, e1, e2⟩ := h2
      exact ⟨L, by rw [sigOf_at h hc]; exact e1, e2⟩
    · cases h1
  | .clo f g d, x', V, h1, h2 => by
    simp only [Sc.ren] at h1
    split at h1
    · rename_i c e hc he
      simp only [Option.some.injEq] at h1
      subst h1
      obtain ⟨L, L', e1, e2, e3⟩ := h2
      exact ⟨L, L', by rw [sigOf_at h hc]; exact e1, by rw [sigOf_at h he]; exact e2, e3⟩
    · cases h1
  | .sl g off len es cap, x', V, h1, h2 => by
    simp only [Sc.ren] at h1
    split at h1
    · rename_i c hc
      simp only [Option.some.injEq] at h1
      subst h1
      rcases h2 with h2 | ⟨L, c', e1, e2⟩
      · exact .inl h2
      · exact .inr ⟨L, c', by rw [sigOf_at h hc]; exact e1, e2⟩
    · cases h1
theorem renL_R (h : renOk ns U = true) : ∀ {l l' : List Sc} {m : List Value}, renL ns l = some l' → All2 (ScR E σ) l m → All2 (ScR E (sigOf σ ns)) l' m
  | [], l', m, h1, h2 => by
    simp only [renL, Option.some.injEq] at h1
    subst h1
    cases m with
    | nil => trivial
    | cons _ _ => exact h2.elim
  | x :: r, l', m, h1, h2 => by
    simp only [renL] at h1
    split at h1
    · rename_i x' r' e1 e2
      simp only [Option.some.injEq] at h1
      subst h1
      cases m with
      | nil => exact h2.elim
      | cons V m => exact ⟨Sc.ren_R h e1 h2.1, renL_R h e2 h2.2⟩
    · cases h1
theorem vk_free {σ' : Sig} {v : VK} : ∀ {xs : List v.T} {m : List Value}, All2 (ScR E σ) (xs.map v.sc) m → All2 (ScR E σ') (xs.map v.sc) m
  | [], [], _ => trivial
  | x :: r, V :: m, h => ⟨by have := h.1; cases v <;> exact this, vk_free h.2⟩
theorem A1.ren_R (h : renOk ns U = true) {v v' : A1} {V : Value} (h1 : v.ren ns = some v') (h2 : A1R E σ v V) : A1R E (sigOf σ ns) v' V := by
  cases v with
  | sc x =>
    simp only [A1.ren] at h1
    split at h1
    · rename_i x' e
      simp only [Option.some.injEq] at h1
      subst h1
      exact Sc.ren_R h e h2
    · cases h1
  | agg l =>
    simp only [A1.ren] at h1
    split at h1
    · rename_i x' e
      simp only [Option.some.injEq] at h1
      subst h1
      obtain ⟨arr, e1, e2⟩ := h2
      exact ⟨arr, e1, renL_R h e e2⟩
    · cases h1
  | ints k n xs =>
    simp only [A1.ren, Option.some.injEq] at h1
    subst h1
    exact h2
  | arr v xs =>
    simp only [A1.ren, Option.some.injEq] at h1
    subst h1
    obtain ⟨arr, e1, e2⟩ := h2
    exact ⟨arr, e1, vk_free e2⟩
theorem renA1_R (h : renOk ns U = true) : ∀ {l l' : List A1} {m : List Value}, renA1 ns l = some l' → All2 (A1R E σ) l m → All2 (A1R E (sigOf σ ns)) l' m
  | [], l', m, h1, h2 => by
    simp only [renA1, Option.some.injEq] at h1
    subst h1
    cases m with
    | nil => trivial
    | cons _ _ => exact h2.elim
  | x :: r, l', m, h1, h2 => by
    simp only [renA1] at h1
    split at h1
    · rename_i x' r' e1 e2
      simp only [Option.some.injEq] at h1
      subst h1
      cases m with
      | nil => exact h2.elim
      | cons V m => exact ⟨A1.ren_R h e1 h2.1, renA1_R h e2 h2.2⟩
    · cases h1
theorem AV.ren_R (h : renOk ns U = true) {v v' : AV} {V : Value} (h1 : v.ren ns = some v') (h2 : AVR E σ v V) : AVR E (sigOf σ ns) v' V := by
  cases v with
  | sc x =>
    simp only [AV.ren] at h1
    split at h1
    · rename_i x' e
      simp only [Option.some.injEq] at h1
      subst h1
      exact Sc.ren_R h e h2
    · cases h1
  | agg l =>
    simp only [AV.ren] at h1
    split at h1
    · rename_i x' e
      simp only [Option.some.injEq] at h1
      subst h1
      obtain ⟨arr, e1, e2⟩ := h2
      exact ⟨arr, e1, renL_R h e e2⟩
    · cases h1
  | ints k n xs =>
    simp only [AV.ren, Option.some.injEq] at h1
    subst h1
    exact h2
  | arr v xs =>
    simp only [AV.ren, Option.some.injEq] at h1
    subst h1
    obtain ⟨arr, e1, e2⟩ := h2
    exact ⟨arr, e1, vk_free e2⟩
  | tup l =>
    simp only [AV.ren] at h1
    split at h1
    · rename_i x' e
      simp only [Option.some.injEq] at h1
      subst h1
      obtain ⟨arr, e1, e2⟩ := h2
      exact ⟨arr, e1, renA1_R h e e2⟩
    · cases h1
theorem renL_get (h : renOk ns U = true) : ∀ {l l' : List Sc}, renL ns l = some l' → l'.length = l.length ∧ ∀ (j : Nat) (x' : Sc), l'[j]? = some x' → ∃ x, l[j]? = some x ∧ x.ren ns = some x'
  | [], l', h1 => by
    simp only [renL, Option.some.injEq] at h1
    subst h1
    exact ⟨rfl, fun j x' hx => by simp at hx⟩
  | x :: r, l', h1 => by
    simp only [renL] at h1
    split at h1
    · rename_i y r' e1 e2
      simp only [Option.some.injEq] at h1
      subst h1
      obtain ⟨q1, q2⟩ := renL_get h e2
      refine ⟨by simp [q1], fun j x' hx => ?_⟩
      cases j with
      | zero => simp at hx; subst hx; exact ⟨x, rfl, e1⟩
      | succ j => simpa using q2 j x' (by simpa using hx)
    · cases h1
theorem Blk.ren_R (h : renOk ns U = true) {w : World} {k k' : Blk} {L : Pl} (h1 : k.ren ns = some k') (h2 : BlkR E σ w k L) : BlkR E (sigOf σ ns) w k' L := by
  cases k with
  | ints kk n xs =>
    simp only [Blk.ren, Option.some.injEq] at h1
    subst h1
    cases L with
    | unset => exact h2
    | nil => exact h2
    | «at» L =>
      obtain ⟨g1, arr, elem, lo, hi, q1, q2, q3, q4, q5, q6⟩ := h2
      refine ⟨g1, arr, elem, lo, hi, q1, q2, q3, q4, q5, fun j x hx => ?_⟩
      obtain ⟨v, e1, e2⟩ := q6 j x hx
      refine ⟨v, e1, ?_⟩
      simp only [Blk.get?, Option.map_eq_some_iff] at hx
      obtain ⟨_, _, rfl⟩ := hx
      exact e2
  | cells l =>
    simp only [Blk.ren] at h1
    split at h1
    · rename_i l' e
      simp only [Option.some.injEq] at h1
      subst h1
      obtain ⟨r1, r2⟩ := renL_get h e
      cases L with
      | unset => exact h2
      | nil => exact ⟨by have := h2.1; simp only [Blk.len] at this ⊢; rw [r1]; exact this, trivial⟩
      | «at» L =>
        obtain ⟨g1, arr, elem, lo, hi, q1, q2, q3, q4, q5, q6⟩ := h2
        refine ⟨trivial, arr, elem, lo, hi, q1, q2, by simp only [Blk.len] at q3 ⊢; rw [r1]; exact q3, q4, q5, fun j x hx => ?_⟩
        obtain ⟨y, e1, e2⟩ := r2 j x hx
        obtain ⟨v, e3, e4⟩ := q6 j y e1
        exact ⟨v, e3, Sc.ren_R h e2 e4⟩
    · cases h1
  | vec vk xs =>
    simp only [Blk.ren, Option.some.injEq] at h1
    subst h1
    cases L with
    | unset => exact h2
    | nil => exact h2
    | «at» L =>
      obtain ⟨g1, arr, elem, lo, hi, q1, q2, q3, q4, q5, q6⟩ := h2
      refine ⟨g1, arr, elem, lo, hi, q1, q2, q3, q4, q5, fun j x hx => ?_⟩
      obtain ⟨v, e1, e2⟩ := q6 j x hx
      refine ⟨v, e1, ?_⟩
      simp only [Blk.get?, Option.map_eq_some_iff] at hx
      obtain ⟨_, _, rfl⟩ := hx
      cases vk <;> exact e2
theorem renFr_look {fr fr' : Fr} : ∀ {kf : List Nat}, renFr ns fr kf = some fr' → ∀ t v', look t fr' = some v' → ∃ v, look t fr = some v ∧ v.ren ns = some v' := by
  intro kf
  induction kf generalizing fr' with
  | nil =>
    intro h t v' ht
    simp only [renFr, Option.some.injEq] at h
    subst h
    cases ht
  | cons t0 r ih =>
    intro h t v' ht
    simp only [renFr] at h
    split at h
    · cases h
    · rename_i v hv
      split at h
      · rename_i v1 fr1 e1 e2
        simp only [Option.some.injEq] at h
        subst h
        simp only [look] at ht
        by_cases e : t0 = t
        · subst e
          simp only [beqT, cond_true, Option.some.injEq] at ht
          subst ht
          exact ⟨v, hv, e1⟩
        · simp only [beqF e, cond_false] at ht
          exact ih e2 t v' ht
      · cases h
theorem renMem_look {M M' : Mem} : ∀ {rs : Ren}, renMem ns M rs = some M' → ∀ c k', look c M' = some k' → ∃ b k, (b, c) ∈ rs ∧ look b M = some k ∧ k.ren ns = some k' := by
  intro rs
  induction rs generalizing M' with
  | nil =>
    intro h t v' ht
    simp only [renMem, Option.some.injEq] at h
    subst h
    cases ht
  | cons p r ih =>
    obtain ⟨b0, c0⟩ := p
    intro h t v' ht
    simp only [renMem] at h
    split at h
    · cases h
    · rename_i v hv
      split at h
      · rename_i v1 fr1 e1 e2
        simp only [Option.some.injEq] at h
        subst h
        simp only [look] at ht
        by_cases e : c0 = t
        · subst e
          simp only [beqT, cond_true, Option.some.injEq] at ht
          subst ht
          exact ⟨b0, v, List.mem_cons_self, hv, e1⟩
        · simp only [beqF e, cond_false] at ht
          obtain ⟨b, k, q1, q2⟩ := ih e2 t v' ht
          exact ⟨b, k, List.mem_cons_of_mem _ q1, q2⟩
      · cases h
end
theorem renOk_mem {ns : Ren} {U b c : Nat} (h : renOk ns U = true) (hb : (b, c) ∈ ns) : look c (turned ns) = some b ∧ c < U ∧ look b ns = some c := by
  unfold renOk at h
  rw [List.all_eq_true] at h
  have h1 := h _ hb
  simp only [Bool.and_eq_true] at h1
  obtain ⟨⟨h1, h3⟩, h2⟩ := h1
  refine ⟨?_, ?_, ?_⟩
  · split at h1
    · rename_i b' hb'
      rw [hb', Nat.eq_of_beq_eq_true h1]
    · cases h1
  · have := Nat.le_of_ble_eq_true (show Nat.ble (c + 1) U = true from h2)
    omega
  · split at h3
    · rename_i b' hb'
      rw [hb', Nat.eq_of_beq_eq_true h3]
    · cases h3
def renSt (ns : Ren) (kf : List Nat) (s : St) : Option St :=
  match renFr ns s.1 kf, renMem ns s.2 ns with
  | some fr, some M => some (fr, M)
  | _, _ => none
theorem StR.ren {n : Nat} {σ : Sig} {ns : Ren} {kf : List Nat} {s s' : St} {a : Act} {w : World} (h : renOk ns U = true) (hs : renSt ns kf s = some s') (hR : StR E n σ s.1 s.2 a w) : StR E n (sigOf σ ns) s'.1 s'.2 a w := by
  unfold renSt at hs
  split at hs
  · rename_i fr M e1 e2
    simp only [Option.some.injEq] at hs
    subst hs
    refine { val := ?_, defers := hR.defers, tmps := hR.tmps, blk := ?_, inj := ?_, old := hR.old, size := hR.size, olds := hR.olds, os := hR.os, tape := hR.tape, output := hR.output }
    · intro t v' ht
      obtain ⟨v, q1, q2⟩ := renFr_look e1 t v' ht
      obtain ⟨V, q3, q4⟩ := hR.val t v q1
      exact ⟨V, q3, AV.ren_R h q2 q4⟩
    · intro c k' hc
      obtain ⟨b, k, q0, q1, q2⟩ := renMem_look e2 c k' hc
      have := hR.blk b k q1
      have hbc : sigOf σ ns c = σ b := by
        unfold sigOf
        rw [(renOk_mem h q0).1]
      rw [hbc]
      exact Blk.ren_R h q2 this
    · intro b c x y L L' hb hc hL hL' hg
      obtain ⟨b1, k1, q0, q1, q2⟩ := renMem_look e2 b x hb
      obtain ⟨c1, k2, q3, q4, q5⟩ := renMem_look e2 c y hc
      have h1 : sigOf σ ns b = σ b1 := by
        unfold sigOf
        rw [(renOk_mem h q0).1]
      have h2 : sigOf σ ns c = σ c1 := by
        unfold sigOf
        rw [(renOk_mem h q3).1]
      have := hR.inj b1 c1 k1 k2 L L' q1 q4 (h1 ▸ hL) (h2 ▸ hL') hg
      subst this
      have e1 := (renOk_mem h q0).2.2
      have e2 := (renOk_mem h q3).2.2
      rw [e1] at e2
      injection e2
  · cases hs
end Go.Vm
set_option linter.unusedVariables false
set_option linter.unusedSimpArgs false
namespace Go.Vm
open Go
variable {B : Bs} {E : Env} {U : Nat} {s : St} {Q : Post}
def ren16 (ns : Ren) (m : Nat) : Bool := ns.all fun p => Nat.ble m p.2 || Nat.beq p.1 p.2
theorem ren16_at {ns : Ren} {m b c : Nat} (h : ren16 ns m = true) (hb : (b, c) ∈ ns) (hc : c < m) : b = c := by
  unfold ren16 at h
  rw [List.all_eq_true] at h
  have h1 := h _ hb
  simp only [Bool.or_eq_true] at h1
  rcases h1 with h1 | h1
  · have := Nat.le_of_ble_eq_true h1
    omega
  · exact Nat.eq_of_beq_eq_true h1
theorem sigOf_keep {κ σ : Sig} {ns : Ren} {m : Nat} (hm : m ≤ 16) (h : ren16 ns m = true) (hk : Keep κ σ) {j : Nat} (hj : j < m) : sigOf σ ns j = κ j ∨ sigOf σ ns j = .unset := by
  unfold sigOf
  split
  · rename_i b hb
    have hmem := look_mem hb
    unfold turned at hmem
    obtain ⟨p, hp, he⟩ := List.mem_map.1 hmem
    simp only [Prod.mk.injEq] at he
    obtain ⟨rfl, rfl⟩ := he
    have := ren16_at h (show (p.1, p.2) ∈ ns from hp) hj
    rw [this]
    exact hk p.2 (by omega)
  · exact .inr rfl
theorem Sub.ren {U' : Nat} {ns : Ren} {kf : List Nat} {s' : St} (h : (renOk ns U' && ren16 ns 16 && Nat.ble 16 U') = true) (hs : renSt ns kf s = some s') : Sub U s U' s' := by
  simp only [Bool.and_eq_true] at h
  obtain ⟨⟨h, h5⟩, h6⟩ := h
  apply Sub.of1
  rintro E κ n a w ⟨σ, h1, h2, h3, h4⟩
  refine ⟨sigOf σ ns, StR.ren h hs h1, fun m hm => ?_, fun j hj => sigOf_keep (Nat.le_refl _) h5 h3 hj, Nat.le_of_ble_eq_true h6⟩
  unfold sigOf
  split
  · rename_i b hb
    have hmem := look_mem hb
    unfold turned at hmem
    obtain ⟨p, hp, he⟩ := List.mem_map.1 hmem
    simp only [Prod.mk.injEq] at he
    obtain ⟨rfl, rfl⟩ := he
    have := (renOk_mem h (show (p.1, p.2) ∈ ns from hp)).2.1
    omega
  · rfl
def loopP {α : Type} (U0 : Nat) (μ : α → Nat) (J : α → Prop) (st : α → St) (x : α) (Q : Post) : Post
  | .normal, U, s => ∃ x', μ x' < μ x ∧ J x' ∧ Sub U s U0 (st x')
  | e, U, s => Q e U s
theorem Tri.loop {α : Type} {c : Code} {U0 : Nat} (μ : α → Nat) (J : α → Prop) (st : α → St) (x0 : α) (hJ : J x0) (h0 : Sub U s U0 (st x0)) (round : ∀ x, J x → Tri B E c U0 (st x) (loopP U0 μ J st x Q)) : Tri B E (.loop c) U s Q := by
  intro hB a w g
  refine wp_loop_ghost (fun m a w => ∃ x, μ x = m ∧ J x ∧ Good E B.n U0 (st x) a w) (μ x0) ⟨x0, rfl, hJ, h0 _ _ _ _ g⟩ ?_
  rintro m a w ⟨x, rfl, hJx, gx⟩
  refine wp_mono (round x hJx hB a w gx) ?_
  rintro e a' w' ⟨U', s', h1, h2⟩
  cases e with
  | normal =>
    obtain ⟨x', q1, q2, q3⟩ := h2
    exact ⟨μ x', q1, x', rfl, q2, q3 _ _ _ _ h1⟩
  | exit id => exact ⟨U', s', h1, h2⟩
  | goto l => exact ⟨U', s', h1, h2⟩
  | ret => exact ⟨U', s', h1, h2⟩
  | panic ch => exact ⟨U', s', h1, h2⟩
  | outgrown => exact ⟨U', s', h1, h2⟩
def sel {α : Type} (b : Bool) (x y : α) : α := bif b then x else y
theorem sel_true {α : Type} (x y : α) : sel true x y = x := Eq.trans (b := x) rfl rfl
theorem sel_false {α : Type} (x y : α) : sel false x y = y := Eq.trans (b := y) rfl rfl
def itr {α : Type} (f : Nat → α → α) : Nat → α → α
  | 0, x => x
  | k + 1, x => f k (itr f k x)
theorem itr_zero {α : Type} (f : Nat → α → α) (x : α) : itr f 0 x = x := rfl
theorem itr_succ {α : Type} (f : Nat → α → α) (k : Nat) (x : α) : itr f (k + 1) x = f k (itr f k x) := rfl
attribute [irreducible] itr
structure Ret where
  v : AV
  bs : List (Option Blk)
def zipN : Nat → List Blk → Mem
  | _, [] => []
  | i, k :: r => (i, k) :: zipN (i + 1) r
def zipO : Nat → List (Option Blk) → Mem
  | _, [] => []
  | i, none :: r => zipO (i + 1) r
  | i, some k :: r => (i, k) :: zipO (i + 1) r
def PureAt (P : Program) (G : Globs) (f : FuncId) (m : Nat) (spec : List AV → List Blk → Option (Prop × Ret)) : Prop :=
  ∀ (E : Env) (w : World) (args : List AV) (ks : List Blk) (Vs : Array Value) (C : Prop) (r : Ret), E.P = P → GlobsOk E G → ks.length = m → (∀ j, m ≤ j → E.kp j = .unset) → MemR E E.kp (zipN 0 ks) w → All2 (AVR E E.kp) args Vs.toList → spec args ks = some (C, r) → C →
    Yields P f Vs w fun V w' => ∃ E' σ', Grow E E' ∧ (∀ j, j < m → σ' j = E.kp j ∨ σ' j = .unset) ∧ AVR E' σ' r.v V ∧ MemR E' σ' (zipO 0 r.bs) w'
def Blk.a1 : Blk → A1
  | .ints k n xs => .ints k n xs
  | .cells l => .agg l
  | .vec v xs => .arr v xs
def a1Of : AV → Option A1
  | .sc s => some (.sc s)
  | .agg l => some (.agg l)
  | .ints k n xs => some (.ints k n xs)
  | .tup _ => none
  | .arr v xs => some (.arr v xs)
def result1 (P : Program) (s : St) : ResultVar → Option (Prop × A1)
  | .tmp t => match look t s.1 with
    | some v => (match a1Of v with | some v' => some (True, v') | none => none)
    | none => none
  | .cell a t => match look a s.1, isAggT P t, sizeT P t with
    | some (.sc (.p b o)), some false, some _ => (match look b s.2 with | some k => (let r := k.at o; some (r.1, .sc r.2)) | none => none)
    | some (.sc (.p b o)), some true, some z => (match look b s.2 with | some k => (let r := k.all o z; some (r.1, r.2.a1)) | none => none)
    | _, _, _ => none
def resultsOf (P : Program) (s : St) : List ResultVar → Option (Prop × List A1)
  | [] => some (True, [])
  | x :: r => match result1 P s x with
    | none => none
    | some (C, v) => match resultsOf P s r with
      | none => none
      | some (C', vs) => some (C ∧ C', v :: vs)
def wrap1 : List A1 → AV
  | [v] => v.up
  | l => .tup l
def finish (P : Program) (rs : List ResultVar) (ns : Ren) (tot : Nat) (s : St) : Option (Prop × Ret) :=
  match resultsOf P s rs with
  | none => none
  | some (C, l) => match (wrap1 l).ren ns, renMem ns s.2 ns with
    | some v, some M => some (C, ⟨v, (List.range tot).map fun j => look j M⟩)
    | _, _ => none
theorem zipO_look {f : Nat → Option Blk} : ∀ (n i c : Nat) (k : Blk), look c (zipO i ((List.range' i n).map f)) = some k → f c = some k
  | 0, i, c, k, h => by cases h
  | n + 1, i, c, k, h => by
    rw [List.range'_succ, List.map_cons] at h
    cases hf : f i with
    | none =>
      rw [hf] at h
      exact zipO_look n (i + 1) c k h
    | some x =>
      rw [hf] at h
      simp only [zipO, look] at h
      by_cases e : i = c
      · subst e
        simp only [beqT, cond_true, Option.some.injEq] at h
        rw [hf, h]
      · simp only [beqF e, cond_false] at h
        exact zipO_look n (i + 1) c k h
theorem MemR.less {σ : Sig} {M M' : Mem} {w : World} (h : MemR E σ M w) (hM : ∀ b k, look b M' = some k → look b M = some k) : MemR E σ M' w :=
  { blk := fun b k hb => h.blk b k (hM b k hb)
    inj := fun b c x y L L' hb hc => h.inj b c x y L L' (hM b x hb) (hM c y hc)
    old := h.old
    size := h.size
    olds := h.olds
    os := h.os
    tape := h.tape
    output := h.output }
def endP (P : Program) (rs : List ResultVar) (m : Nat) (r : Ret) : Post
  | .normal, _, s | .ret, _, s => ∃ ns C, (renOk ns r.bs.length && ren16 ns m) = true ∧ finish P rs ns r.bs.length s = some (C, r) ∧ C
  | _, _, _ => False
theorem a1Of_R {σ : Sig} {v : AV} {v' : A1} {V : Value} (h : a1Of v = some v') (hv : AVR E σ v V) : A1R E σ v' V := by
  cases v with
  | tup l => cases h
  | sc x => simp only [a1Of, Option.some.injEq] at h; subst h; exact hv
  | agg x => simp only [a1Of, Option.some.injEq] at h; subst h; exact hv
  | arr v x => simp only [a1Of, Option.some.injEq] at h; subst h; exact hv
  | ints k n x => simp only [a1Of, Option.some.injEq] at h; subst h; exact hv
theorem Blk.a1_R {σ : Sig} {k : Blk} {V : Value} (hv : AVR E σ k.av V) : A1R E σ k.a1 V := by
  cases k <;> exact hv
def resultVal (a : Act) : ResultVar → Sem Value
  | .tmp t => pure (a.tmps.getD t undef)
  | .cell d t => do loadVar t (← asAddr (a.tmps.getD d undef))
theorem result1_run {P : Program} {σ : Sig} {a : Act} {w : World} {n : Nat} (hs : StR E n σ s.1 s.2 a w) {x : ResultVar} {C : Prop} {v : A1} (h : result1 P s x = some (C, v)) (hC : C) :
    ∃ V, (resultVal a x).run P w = .ok V w ∧ A1R E σ v V := by
  cases x with
  | tmp t =>
    simp only [result1] at h
    split at h
    · rename_i u hu
      split at h
      · rename_i v' hv'
        simp only [Option.some.injEq, Prod.mk.injEq] at h
        obtain ⟨_, rfl⟩ := h
        obtain ⟨V, h1, h2⟩ := hs.val t u hu
        exact ⟨V, by simp [resultVal, Array.getD_eq_getD_getElem?, h1], a1Of_R hv' h2⟩
      · cases h
    · cases h
  | cell d t =>
    simp only [result1] at h
    split at h
    · rename_i b o z hd hag hsz
      split at h
      · rename_i k hk
        simp only [Option.some.injEq, Prod.mk.injEq] at h
        obtain ⟨rfl, rfl⟩ := h
        obtain ⟨V, h1, L, hL, rfl⟩ := hs.val d _ hd
        have hB := hs.blk b k hk
        rw [hL] at hB
        obtain ⟨v, h3, h4⟩ := hB.read (Blk.at_get hB.1 hC)
        refine ⟨v, ?_, h4⟩
        simp [resultVal, Array.getD_eq_getD_getElem?, h1, asAddr, load_one hag h3]
      · cases h
    · rename_i b o z hd hag hsz
      split at h
      · rename_i k hk
        simp only [Option.some.injEq, Prod.mk.injEq] at h
        obtain ⟨rfl, rfl⟩ := h
        obtain ⟨V, h1, L, hL, rfl⟩ := hs.val d _ hd
        have hB := hs.blk b k hk
        rw [hL] at hB
        obtain ⟨hC1, hC2⟩ := Blk.all_sub hC
        obtain ⟨cs, h3, h4, h5⟩ := hB.list hC1
        rw [← hC2] at h5
        refine ⟨.agg cs.toArray, ?_, Blk.a1_R h5.av⟩
        simp [resultVal, Array.getD_eq_getD_getElem?, h1, asAddr]
        exact load_many hag hsz h3 h4
      · cases h
    · cases h
theorem results_run {P : Program} {σ : Sig} {a : Act} {w : World} {n : Nat} (hs : StR E n σ s.1 s.2 a w) : ∀ {rs : List ResultVar} {l : List A1} {C : Prop}, resultsOf P s rs = some (C, l) → C →
    ∃ Vs : List Value, (rs.mapM (resultVal a)).run P w = .ok Vs w ∧ All2 (A1R E σ) l Vs
  | [], l, C, h, hC => by
    simp only [resultsOf, Option.some.injEq, Prod.mk.injEq] at h
    obtain ⟨_, rfl⟩ := h
    exact ⟨[], by simp, trivial⟩
  | x :: r, l, C, h, hC => by
    simp only [resultsOf] at h
    split at h
    · cases h
    · rename_i C1 v1 h1
      split at h
      · cases h
      · rename_i C2 vs h2
        simp only [Option.some.injEq, Prod.mk.injEq] at h
        obtain ⟨rfl, rfl⟩ := h
        obtain ⟨V, q1, q2⟩ := result1_run hs h1 hC.1
        obtain ⟨Vs, q3, q4⟩ := results_run hs h2 hC.2
        exact ⟨V :: Vs, by simp [q1, q3], q2, q4⟩
theorem A1.up_R {σ : Sig} {v : A1} {V : Value} (h : A1R E σ v V) : AVR E σ v.up V := by
  cases v <;> exact h
theorem wrap1_R {P : Program} {fn : Func} {σ : Sig} {a : Act} {w : World} {n : Nat} (hs : StR E n σ s.1 s.2 a w) {l : List A1} {C : Prop} (h : resultsOf P s fn.results.toList = some (C, l)) (hC : C) :
    ∃ V, (results fn a.tmps).run P w = .ok V w ∧ AVR E σ (wrap1 l) V := by
  obtain ⟨Vs, h1, h2⟩ := results_run hs h hC
  have hm : (fn.results.mapM (resultVal a)).run P w = .ok Vs.toArray w := by
    rw [Array.mapM_eq_mapM_toList]
    simp [h1]
  have hr : results fn a.tmps = (do let vs ← fn.results.mapM (resultVal a); pure (if h : vs.size = 1 then vs[0] else .tuple vs)) := rfl
  rw [hr]
  simp only [Sem.run_bind, hm, Result.andThen_ok, Sem.run_pure]
  refine ⟨_, rfl, ?_⟩
  match l, Vs, h2 with
  | [v], [V], h2 => exact A1.up_R h2.1
  | [], [], _ => exact ⟨_, rfl, trivial⟩
  | v :: v' :: r, V :: V' :: R, h2 => exact ⟨_, by simp, h2⟩
def lens : List AV → Prop
  | [] => True
  | .ints _ n xs :: r => xs.length = n ∧ lens r
  | .sc _ :: r => lens r
  | .agg _ :: r => lens r
  | .arr _ _ :: r => lens r
  | .tup _ :: r => lens r
theorem lens_of {E : Env} {σ : Sig} : ∀ {args : List AV} {m : List Value}, All2 (AVR E σ) args m → lens args
  | [], [], _ => trivial
  | .ints _ _ _ :: r, V :: m, ⟨h1, h2⟩ => ⟨h1.1, lens_of h2⟩
  | .sc _ :: r, V :: m, ⟨h1, h2⟩ => lens_of (args := r) h2
  | .agg _ :: r, V :: m, ⟨h1, h2⟩ => lens_of (args := r) h2
  | .arr _ _ :: r, V :: m, ⟨h1, h2⟩ => lens_of (args := r) h2
  | .tup _ :: r, V :: m, ⟨h1, h2⟩ => lens_of (args := r) h2
theorem PureAt.of_walk {B : Bs} {f : FuncId} {fn : Func} {c : Code} {m : Nat} {spec : List AV → List Blk → Option (Prop × Ret)} (hok : B.Ok) (hf : B.P.funcs[f]? = some fn) (hb : fn.body = some c) (hn : (fn.name != "runtime.NumGoroutine") = true) (hnt : fn.ntmps = B.n) (hm : m ≤ 16)
    (h : ∀ (E : Env) (args : List AV) (ks : List Blk) (C : Prop) (r : Ret), spec args ks = some (C, r) → C → lens args → args.length ≤ B.n ∧ Tri B E c 16 ((List.range args.length).zip args, zipN 0 ks) (endP B.P fn.results.toList m r)) : PureAt B.P B.G f m spec := by
  intro E w args ks Vs C r hP hG hks hkp hM hargs hsp hC
  obtain ⟨hlen, hw⟩ := h E args ks C r hsp hC (lens_of hargs)
  have hl : args.length = Vs.size := by simpa using hargs.length
  refine .inl ⟨by simp [entersB, hf, hb, hn], ?_⟩
  refine calls_of_wp hf hb ?_
  have good : Good E B.n 16 ((List.range args.length).zip args, zipN 0 ks) { tmps := Vs ++ Array.replicate (fn.ntmps - Vs.size) undef, defers := [] } w := by
    refine ⟨E, .refl E, E.kp, ?_, fun j hj => hkp j (by omega), fun _ _ => .inl rfl, Nat.le_refl _⟩
    refine { toMemR := hM, val := fun t v ht => ?_, defers := rfl, tmps := by simp; omega }
    have hmem := look_mem ht
    obtain ⟨j, hj⟩ := List.mem_iff_getElem?.1 hmem
    rw [List.getElem?_zip_eq_some] at hj
    obtain ⟨hj1, hj2⟩ := hj
    have hjt : j = t := by
      rw [List.getElem?_range] at hj1
      · simpa using hj1
      · rw [List.getElem?_eq_some_iff] at hj2
        obtain ⟨q, _⟩ := hj2
        exact q
    subst hjt
    obtain ⟨V, q1, q2⟩ := hargs.get j v hj2
    refine ⟨V, ?_, q2⟩
    have hlt : j < Vs.size := by
      rw [Array.getElem?_toList] at q1
      rw [Array.getElem?_eq_some_iff] at q1
      exact q1.1
    rw [Array.getElem?_append_left hlt]
    simpa using q1
  refine wp_mono (hw ⟨hP, hG, hok⟩ _ w good) ?_
  rintro e a' w' ⟨U', s', ⟨E', hgr, σ, g1, g2, g3, g4⟩, hq⟩
  have fin : (∃ ns C, (renOk ns r.bs.length && ren16 ns m) = true ∧ finish B.P fn.results.toList ns r.bs.length s' = some (C, r) ∧ C) →
      a'.defers = [] ∧ ∃ v, (results fn a'.tmps).run B.P w' = .ok v w' ∧ ∃ V, (Ending.returned v) = .returned V ∧ ∃ E' σ', Grow E E' ∧ (∀ j, j < m → σ' j = E.kp j ∨ σ' j = .unset) ∧ AVR E' σ' r.v V ∧ MemR E' σ' (zipO 0 r.bs) w' := by
    rintro ⟨ns, C, n1, n3, n4⟩
    simp only [Bool.and_eq_true] at n1
    obtain ⟨n1, n2⟩ := n1
    unfold finish at n3
    split at n3
    · cases n3
    · rename_i C1 l hl
      split at n3
      · rename_i v M m1 m2
        simp only [Option.some.injEq, Prod.mk.injEq] at n3
        obtain ⟨rfl, hr⟩ := n3
        obtain ⟨V, q1, q2⟩ := wrap1_R g1 hl n4
        have hv : r.v = v := by rw [← hr]
        have hbs : r.bs = (List.range r.bs.length).map fun j => look j M := by
          conv => lhs; rw [← hr]
        refine ⟨g1.defers, V, q1, V, rfl, E', sigOf σ ns, hgr, fun j hj => sigOf_keep hm n2 g3 hj, by rw [hv]; exact AV.ren_R n1 m1 q2, ?_⟩
        have := StR.ren (kf := []) (s := s') (s' := ([], M)) n1 (by simp [renSt, renFr, m2]) g1
        have hM' := this.toMemR
        refine MemR.less (M := M) hM' fun b k hb => ?_
        rw [hbs, List.range_eq_range'] at hb
        exact zipO_look _ 0 b k hb
      · cases n3
  cases e with
  | normal => exact fin hq
  | ret => exact fin hq
  | exit id => exact hq.elim
  | goto l => exact hq.elim
  | panic ch => exact hq.elim
  | outgrown => exact hq.elim
end Go.Vm
set_option linter.unusedVariables false
set_option linter.unusedSimpArgs false
namespace Go.Vm
open Go
def Sc.plain : Sc → Bool
  | .p _ _ | .sl _ _ _ _ _ | .b _ | .i _ _ | .s _ | .nilp | .nils => true
  | _ => false
def A1.plain : A1 → Bool
  | .sc s => s.plain
  | .agg l => l.all Sc.plain
  | .ints _ _ _ => true
  | .arr .str _ => true
  | .arr _ _ => false
def AV.plain : AV → Bool
  | .sc s => s.plain
  | .agg l => l.all Sc.plain
  | .ints _ _ _ => true
  | .arr .str _ => true
  | .arr _ _ => false
  | .tup l => l.all A1.plain
def Blk.plain : Blk → Bool
  | .ints _ _ _ => true
  | .cells l => l.all Sc.plain
  | .vec .str _ => true
  | .vec _ _ => false
def OBlk.plain : Option Blk → Bool
  | none => true
  | some k => k.plain
def Ret.plain (r : Ret) : Bool := r.v.plain && r.bs.all OBlk.plain
def Sc.own0 : Sc → Bool
  | .b _ | .i _ _ | .s _ | .nilp | .nils => true
  | _ => false
inductive Pass where
  | val
  | ro (k : IntKind)
  | rob
  | ros
  | io
theorem part1_all {xs : List Int} {n : Nat} (h : xs.length = n) : part1 xs n 0 n = xs := by
  rw [part1_eq h, List.drop_zero, List.take_of_length_le (by omega)]
def partV {α : Type} (xs : List α) (off len : Nat) : List α := bif Nat.beq off 0 then xs.take len else (xs.drop off).take len
theorem partV_eq {α : Type} (xs : List α) (off len : Nat) : partV xs off len = (xs.drop off).take len := by
  unfold partV
  cases hb : Nat.beq off 0
  · rfl
  · have h := Nat.eq_of_beq_eq_true hb
    subst h
    rfl
def lookZ (b : Nat) : List Nat → List Blk → Option Blk
  | m :: ms, k :: ks => bif Nat.beq m b then some k else lookZ b ms ks
  | _, _ => none
def roOf (k : IntKind) (ms : List Nat) (ks : List Blk) : Sc → Option (Prop × List Int)
  | .ro k' xs => if k' = k then some (True, xs) else none
  | .nils => some (True, [])
  | .sl b off len 1 _ => match lookZ b ms ks with
    | some (.ints k' n xs) => if k' = k then some (off + len ≤ n, part1 xs n off len) else none
    | some (.cells []) => some (len = 0, [])
    | _ => none
  | _ => none
def rowsOf (ms : List Nat) (ks : List Blk) : List Sc → Option (Prop × List (List Int))
  | [] => some (True, [])
  | s :: r => match roOf .u8 ms ks s, rowsOf ms ks r with
    | some (C, xs), some (C', xss) => some (C ∧ C', xs :: xss)
    | _, _ => none
def lendAll (ns : Ren) (ms : List Nat) (ks : List Blk) : List Pass → List AV → Option (Prop × List AV)
  | [], [] => some (True, [])
  | .ro k :: ps, .sc s :: r => match roOf k ms ks s, lendAll ns ms ks ps r with
    | some (C, xs), some (C', vs) => some (C ∧ C', .sc (.ro k xs) :: vs)
    | _, _ => none
  | .rob :: ps, .sc (.rob xs) :: r => (match lendAll ns ms ks ps r with
    | some (C, vs) => some (C, .sc (.rob xs) :: vs)
    | none => none)
  | .rob :: ps, .sc (.sl b off len es _) :: r => match lookZ b ms ks with
    | some (.cells l) => (match rowsOf ms ks ((l.drop off).take len), lendAll ns ms ks ps r with
      | some (C0, xss), some (C, vs) => bif Nat.beq es 1 then some ((off + len ≤ l.length ∧ C0) ∧ C, .sc (.rob xss) :: vs) else none
      | _, _ => none)
    | some (.vec .row xs) => (match lendAll ns ms ks ps r with
      | some (C, vs) => bif Nat.beq es 1 then some ((off + len ≤ xs.length) ∧ C, .sc (.rob (partV xs off len)) :: vs) else none
      | _ => none)
    | _ => none
  | .rob :: ps, .sc .nils :: r => (match lendAll ns ms ks ps r with
    | some (C, vs) => some (C, .sc (.rob []) :: vs)
    | none => none)
  | .ros :: ps, .sc (.ros xs) :: r => (match lendAll ns ms ks ps r with
    | some (C, vs) => some (C, .sc (.ros xs) :: vs)
    | none => none)
  | .ros :: ps, .sc .nils :: r => (match lendAll ns ms ks ps r with
    | some (C, vs) => some (C, .sc (.ros []) :: vs)
    | none => none)
  | .ros :: ps, .sc (.sl b off len es _) :: r => match lookZ b ms ks with
    | some (.vec .str xs) => (match lendAll ns ms ks ps r with
      | some (C, vs) => bif Nat.beq es 1 then some ((off + len ≤ xs.length) ∧ C, .sc (.ros (partV xs off len)) :: vs) else none
      | _ => none)
    | some (.cells l) => (match VK.unL .str ((l.drop off).take len), lendAll ns ms ks ps r with
      | some xs, some (C, vs) => bif Nat.beq es 1 then some ((off + len ≤ l.length) ∧ C, .sc (.ros xs) :: vs) else none
      | _, _ => none)
    | _ => none
  | .val :: ps, .sc s :: r => (match s.own0, lendAll ns ms ks ps r with
    | true, some (C, vs) => some (C, .sc s :: vs)
    | _, _ => none)
  | .val :: ps, .ints k n xs :: r => (match lendAll ns ms ks ps r with
    | some (C, vs) => some (C, .ints k n xs :: vs)
    | none => none)
  | .io :: ps, v :: r => (match v.ren ns, lendAll ns ms ks ps r with
    | some v', some (C, vs) => some (C, v' :: vs)
    | _, _ => none)
  | _, _ => none
def downB (ns : Ren) : List Blk → Option (List Blk)
  | [] => some []
  | k :: r => match k.ren ns, downB ns r with
    | some k', some r' => some (k' :: r')
    | _, _ => none
def upB (up : Ren) : List (Option Blk) → Option (List (Option Blk))
  | [] => some []
  | none :: r => (match upB up r with
    | some r' => some (none :: r')
    | none => none)
  | some k :: r => match k.ren up, upB up r with
    | some k', some r' => some (some k' :: r')
    | _, _ => none
def downN (fs : List Nat) : Ren := fs.zip (List.range fs.length)
def upN (fs : List Nat) (nm nb : Nat) : Ren := (List.range (fs.length + nb)).zip (fs ++ (List.range nb).map (nm + ·))
def big : Nat := 1000000000000
def callD (ps : List Pass) (ms fs : List Nat) (nb : Nat) (spec : List AV → List Blk → Option (Prop × Ret)) (args : List AV) (nm : Nat) : Option Deed :=
  bif renOk (downN fs) big && renOk (upN fs nm nb) big && ms.all (fun b => !fs.any (Nat.beq b)) then
    some { rd := ms ++ fs, wr := fs ++ (List.range nb).map (nm + ·), go := fun ks =>
      match lendAll (downN fs) ms (ks.take ms.length) ps args, downB (downN fs) (ks.drop ms.length) with
      | some (C, vs), some ks' => (match spec vs ks' with
        | some (C', r) => (match r.v.ren (upN fs nm nb), upB (upN fs nm nb) r.bs with
          | some v, some bs => bif Nat.beq r.bs.length (fs.length + nb) && (ms.isEmpty || r.plain) then some (C ∧ C', v, bs) else none
          | _, _ => none)
        | none => none)
      | _, _ => none }
  else none
section
variable {E E0 E' : Env} {σ σ' : Sig} {nm nb : Nat}
theorem ro_env (ho : ∀ g, E0.old g → E'.old g) (hw : E'.w0 = E0.w0) {k : IntKind} {xs : List Int} {V : Value} (h : RoR E0 k xs V) : RoR E' k xs V := by
  obtain ⟨A, c, q1, q2, q3⟩ := h
  refine ⟨A, c, q1, q2, fun hpos => ?_⟩
  obtain ⟨ad, r1, r2, r3⟩ := q3 hpos
  exact ⟨ad, r1, ho _ r2, fun j hj => by rw [hw]; exact r3 j hj⟩
theorem Sc.env {pl : Bool} (ho : pl = false → ∀ g, E0.old g → E'.old g) (hw : E'.w0 = E0.w0) : ∀ {s : Sc} {V : Value}, (pl = true → s.plain = true) → ScR E0 σ s V → ScR E' σ s V := by
  intro s V hp h
  cases pl with
  | true =>
    have := hp rfl
    cases s <;> first | exact h | exact Bool.noConfusion (show false = true from this)
  | false =>
    have ho := ho rfl
    cases s with
    | b _ | i _ _ | s _ | nilp | nils | raw _ | p _ _ | sl _ _ _ _ _ | clo _ _ _ => exact h
    | ro k xs => exact ro_env ho hw h
    | ros xs =>
      obtain ⟨A, c, q1, q2, q3⟩ := h
      refine ⟨A, c, q1, q2, fun hpos => ?_⟩
      obtain ⟨ad, r1, r2, r3⟩ := q3 hpos
      exact ⟨ad, r1, ho _ r2, fun j hj => by rw [hw]; exact r3 j hj⟩
    | rob xs =>
      obtain ⟨A, c, q1, q2, q3⟩ := h
      refine ⟨A, c, q1, q2, fun hpos => ?_⟩
      obtain ⟨ad, r1, r2, r3⟩ := q3 hpos
      refine ⟨ad, r1, ho _ r2, fun j hj => ?_⟩
      obtain ⟨v, e1, e2⟩ := r3 j hj
      exact ⟨v, by rw [hw]; exact e1, ro_env ho hw e2⟩
    | rp k xs j =>
      obtain ⟨ad, q1, q2, q3⟩ := h
      exact ⟨ad, q1, ho _ q2, fun j hj => by rw [hw]; exact q3 j hj⟩
    | rps x =>
      obtain ⟨ad, q1, q2, q3⟩ := h
      exact ⟨ad, q1, ho _ q2, by rw [hw]; exact q3⟩
    | rpb xs =>
      obtain ⟨ad, v, q1, q2, q3, q4⟩ := h
      exact ⟨ad, v, q1, ho _ q2, by rw [hw]; exact q3, ro_env ho hw q4⟩
theorem scL_env {pl : Bool} (ho : pl = false → ∀ g, E0.old g → E'.old g) (hw : E'.w0 = E0.w0) : ∀ {l : List Sc} {m : List Value}, (pl = true → l.all Sc.plain = true) → All2 (ScR E0 σ) l m → All2 (ScR E' σ) l m
  | [], [], _, _ => trivial
  | x :: r, V :: m, hp, h => ⟨Sc.env ho hw (fun q => by have := hp q; simp only [List.all_cons, Bool.and_eq_true] at this; exact this.1) h.1,
      scL_env ho hw (fun q => by have := hp q; simp only [List.all_cons, Bool.and_eq_true] at this; exact this.2) h.2⟩
theorem vk_env {pl : Bool} (ho : pl = false → ∀ g, E0.old g → E'.old g) (hw : E'.w0 = E0.w0) {v : VK} : ∀ {xs : List v.T} {m : List Value}, (pl = true → v = .str) → All2 (ScR E0 σ) (xs.map v.sc) m → All2 (ScR E' σ) (xs.map v.sc) m
  | [], [], _, _ => trivial
  | x :: r, V :: m, hp, h => ⟨Sc.env ho hw (fun q => by have := hp q; subst this; rfl) h.1, vk_env ho hw hp h.2⟩
theorem A1.env {pl : Bool} (ho : pl = false → ∀ g, E0.old g → E'.old g) (hw : E'.w0 = E0.w0) {v : A1} {V : Value} (hp : pl = true → v.plain = true) (h : A1R E0 σ v V) : A1R E' σ v V := by
  cases v with
  | sc s => exact Sc.env ho hw hp h
  | agg l => obtain ⟨arr, e, q⟩ := h; exact ⟨arr, e, scL_env ho hw hp q⟩
  | arr v xs => obtain ⟨arr, e, q⟩ := h; exact ⟨arr, e, vk_env ho hw (fun q => by have := hp q; cases v <;> first | rfl | exact Bool.noConfusion (show false = true from this)) q⟩
  | ints k n xs => exact h
theorem a1L_env {pl : Bool} (ho : pl = false → ∀ g, E0.old g → E'.old g) (hw : E'.w0 = E0.w0) : ∀ {l : List A1} {m : List Value}, (pl = true → l.all A1.plain = true) → All2 (A1R E0 σ) l m → All2 (A1R E' σ) l m
  | [], [], _, _ => trivial
  | x :: r, V :: m, hp, h => ⟨A1.env ho hw (fun q => by have := hp q; simp only [List.all_cons, Bool.and_eq_true] at this; exact this.1) h.1,
      a1L_env ho hw (fun q => by have := hp q; simp only [List.all_cons, Bool.and_eq_true] at this; exact this.2) h.2⟩
theorem AV.env {pl : Bool} (ho : pl = false → ∀ g, E0.old g → E'.old g) (hw : E'.w0 = E0.w0) {v : AV} {V : Value} (hp : pl = true → v.plain = true) (h : AVR E0 σ v V) : AVR E' σ v V := by
  cases v with
  | sc s => exact Sc.env ho hw hp h
  | agg l => obtain ⟨arr, e, q⟩ := h; exact ⟨arr, e, scL_env ho hw hp q⟩
  | arr v xs => obtain ⟨arr, e, q⟩ := h; exact ⟨arr, e, vk_env ho hw (fun q => by have := hp q; cases v <;> first | rfl | exact Bool.noConfusion (show false = true from this)) q⟩
  | ints k n xs => exact h
  | tup l => obtain ⟨arr, e, q⟩ := h; exact ⟨arr, e, a1L_env ho hw hp q⟩
theorem Blk.env {pl : Bool} (ho : pl = false → ∀ g, E0.old g → E'.old g) (hw : E'.w0 = E0.w0) (hz : ∀ g, ¬ E0.fz g → ¬ E'.fz g) {k : Blk} {L : Pl} {w : World} (hp : pl = true → k.plain = true) (h : BlkR E0 σ w k L) : BlkR E' σ w k L := by
  cases L with
  | unset => exact h
  | nil => exact h
  | «at» L =>
    obtain ⟨g1, arr, elem, lo, hi, q1, q2, q3, q4, q5, q6⟩ := h
    refine ⟨g1, arr, elem, lo, hi, q1, q2, q3, hz _ q4, q5, fun j s hs => ?_⟩
    obtain ⟨v, e1, e2⟩ := q6 j s hs
    refine ⟨v, e1, Sc.env ho hw (fun q => ?_) e2⟩
    have := hp q
    cases k with
    | ints kk n xs =>
      simp only [Blk.get?, Option.map_eq_some_iff] at hs
      obtain ⟨_, _, rfl⟩ := hs
      rfl
    | cells l =>
      simp only [Blk.plain, List.all_eq_true] at this
      exact this s (List.mem_of_getElem? hs)
    | vec v l =>
      simp only [Blk.get?, Option.map_eq_some_iff] at hs
      obtain ⟨x, _, rfl⟩ := hs
      cases v with
      | str => rfl
      | row => simp [Blk.plain] at this
      | tab => simp [Blk.plain] at this
theorem lookAll_append {M : Mem} : ∀ {l m : List Nat} {ks : List Blk}, lookAll M (l ++ m) = some ks → lookAll M l = some (ks.take l.length) ∧ lookAll M m = some (ks.drop l.length)
  | [], m, ks, h => ⟨by simp [lookAll], by simpa using h⟩
  | b :: l, m, ks, h => by
    simp only [List.cons_append, lookAll] at h ⊢
    cases hb : look b M with
    | none => simp [hb] at h
    | some k =>
      simp only [hb] at h ⊢
      cases hr : lookAll M (l ++ m) with
      | none => simp [hr] at h
      | some ks' =>
        simp only [hr, Option.some.injEq] at h
        subst h
        obtain ⟨h1, h2⟩ := lookAll_append hr
        exact ⟨by simp [h1], by simpa using h2⟩
theorem lookAll_at {M : Mem} : ∀ {l : List Nat} {ks : List Blk}, lookAll M l = some ks → l.length = ks.length ∧ ∀ (j b : Nat), l[j]? = some b → ∃ k, ks[j]? = some k ∧ look b M = some k
  | [], ks, h => by
    simp only [lookAll, Option.some.injEq] at h
    subst h
    exact ⟨rfl, fun j b hb => by simp at hb⟩
  | x :: l, ks, h => by
    simp only [lookAll] at h
    cases hb : look x M with
    | none => simp [hb] at h
    | some k =>
      simp only [hb] at h
      cases hr : lookAll M l with
      | none => simp [hr] at h
      | some ks' =>
        simp only [hr, Option.some.injEq] at h
        subst h
        obtain ⟨h1, h2⟩ := lookAll_at hr
        refine ⟨by simp [h1], fun j b hj => ?_⟩
        cases j with
        | zero =>
          simp only [List.getElem?_cons_zero, Option.some.injEq] at hj
          subst hj
          exact ⟨k, rfl, hb⟩
        | succ j =>
          simp only [List.getElem?_cons_succ] at hj ⊢
          exact h2 j b hj
theorem lookZ_mem {b : Nat} : ∀ {ms : List Nat} {ks : List Blk} {k : Blk}, lookZ b ms ks = some k → ∃ j : Nat, ms[j]? = some b ∧ ks[j]? = some k
  | [], ks, k, h => by cases ks <;> cases h
  | m :: ms, [], k, h => by cases h
  | m :: ms, x :: ks, k, h => by
    simp only [lookZ] at h
    by_cases e : m = b
    · subst e
      simp only [beqT, cond_true, Option.some.injEq] at h
      exact ⟨0, rfl, by rw [h]; rfl⟩
    · simp only [beqF e, cond_false] at h
      obtain ⟨j, h1, h2⟩ := lookZ_mem h
      exact ⟨j + 1, by simpa using h1, by simpa using h2⟩
theorem lookZ_look {M : Mem} {ms : List Nat} {ks : List Blk} (hl : lookAll M ms = some ks) {b : Nat} {k : Blk} (h : lookZ b ms ks = some k) : look b M = some k ∧ b ∈ ms := by
  obtain ⟨j, h1, h2⟩ := lookZ_mem h
  obtain ⟨k', h3, h4⟩ := (lookAll_at hl).2 j b h1
  rw [h2] at h3
  injection h3 with h3
  subst h3
  exact ⟨h4, List.mem_of_getElem? h1⟩
theorem heap_lt {w : World} {g : Nat} {o : Obj} (h : w.heap[g]? = some o) : g < w.heap.size := (Array.getElem?_eq_some_iff.1 h).1
theorem blk_good {M : Mem} {w : World} (hM : MemR E σ M w) {b : Nat} {k : Blk} (h : look b M = some k) : k.good := by
  have hB := hM.blk b _ h
  revert hB
  cases σ b with
  | unset => intro h; exact h.elim
  | nil => intro h; exact h.2
  | «at» L => intro h; exact h.1
def inFeet (σ : Sig) (fs : List Nat) (g : Nat) : Prop := ∃ b ∈ fs, ∃ L, σ b = .at L ∧ L.g = g
def callE (E : Env) (σ : Sig) (w : World) (fs : List Nat) (lent : Bool) (κ : Sig) : Env :=
  { P := E.P, w0 := w, old := fun g => (E.old g ∨ (lent = true ∧ ¬ E.fz g)) ∧ (g < w.heap.size ∧ ¬ inFeet σ fs g), fz := fun g => g < w.heap.size ∧ ¬ inFeet σ fs g, sub := fun _ h => h.2, kp := κ }
section
variable {M : Mem} {w : World} {fs ms : List Nat} {kfs kms : List Blk} {lent : Bool} {κ : Sig}
theorem feet_at (hfs : lookAll M fs = some kfs) {b : Nat} (hb : b ∈ fs) : ∃ k, look b M = some k := by
  obtain ⟨j, hj⟩ := List.mem_iff_getElem?.1 hb
  obtain ⟨k, _, h⟩ := (lookAll_at hfs).2 j b hj
  exact ⟨k, h⟩
theorem fz_out (hM : MemR E σ M w) (hfs : lookAll M fs = some kfs) {g : Nat} (hg : E.fz g) : g < w.heap.size ∧ ¬ inFeet σ fs g := by
  refine ⟨Nat.lt_of_lt_of_le (hM.olds g hg) hM.size, ?_⟩
  rintro ⟨b, hb, L, hL, rfl⟩
  obtain ⟨k, hk⟩ := feet_at hfs hb
  have hB := hM.blk b k hk
  rw [hL] at hB
  obtain ⟨_, arr, elem, lo, hi, _, _, _, q4, _⟩ := hB
  exact q4 hg
theorem grow0 (hM : MemR E σ M w) (hfs : lookAll M fs = some kfs) : Grow E (callE E σ w fs lent κ) where
  P := rfl
  old g hg := ⟨.inl hg, fz_out hM hfs (E.sub g hg)⟩
  fz g hg := fz_out hM hfs hg
  w0 g hg := hM.old g hg
  new g hg := by
    rcases hg.1 with h | h
    · exact .inl h
    · exact .inr h.2
  size := hM.size
  os := hM.os
  tape := hM.tape
  output := hM.output
theorem sl_out (hM : MemR E σ M w) (hfs : lookAll M fs = some kfs) (hd : ∀ b ∈ ms, b ∉ fs) {b : Nat} {k : Blk} {L : Loc} (hb : look b M = some k) (hms : b ∈ ms) (hL : σ b = .at L) : L.g < w.heap.size ∧ ¬ inFeet σ fs L.g ∧ ¬ E.fz L.g := by
  have hB := hM.blk b k hb
  rw [hL] at hB
  have hB' := hB
  obtain ⟨_, arr, elem, lo, hi, q1, _, _, q4, _⟩ := hB
  refine ⟨heap_lt q1, ?_, q4⟩
  rintro ⟨c, hc, L', hL', he⟩
  obtain ⟨k', hk'⟩ := feet_at hfs hc
  have := hM.inj c b k' k L' L hk' hb hL' hL he
  subst this
  exact hd c hms hc
theorem roOf_R (hM : MemR E σ M w) (hfs : lookAll M fs = some kfs) (hl : lookAll M ms = some kms) (hd : ∀ b ∈ ms, b ∉ fs) (hlent : ms ≠ [] → lent = true) {k : IntKind} {s : Sc} {C : Prop} {xs : List Int} {V : Value}
    (h : roOf k ms kms s = some (C, xs)) (hC : C) (hV : ScR E σ s V) : RoR (callE E σ w fs lent κ) k xs V := by
  unfold roOf at h
  split at h
  · split at h
    · rename_i hk
      subst hk
      simp only [Option.some.injEq, Prod.mk.injEq] at h
      obtain ⟨_, rfl⟩ := h
      exact (grow0 hM hfs).ro hV
    · cases h
  · simp only [Option.some.injEq, Prod.mk.injEq] at h
    obtain ⟨_, rfl⟩ := h
    have h4 : V = .slice none 0 0 := hV
    exact ⟨none, 0, h4, by simp, by simp⟩
  · rename_i b off len cap
    split at h
    · rename_i k' n zs hz
      split at h
      · rename_i hk
        subst hk
        simp only [Option.some.injEq, Prod.mk.injEq] at h
        obtain ⟨rfl, rfl⟩ := h
        obtain ⟨hblk, hmem⟩ := lookZ_look hl hz
        have hg0 : zs.length = n := blk_good hM hblk
        rw [part1_eq hg0]
        have hC : off + len ≤ n := hC
        rcases hV with ⟨q1, _, A, rfl⟩ | ⟨L, c, hL, rfl, q1, q2, q3⟩
        · subst q1
          exact ⟨A, 0, by simp, by simp, by simp⟩
        · obtain ⟨o1, o2, o3⟩ := sl_out hM hfs hd hblk hmem hL
          have hB := hM.blk b _ hblk
          rw [hL] at hB
          obtain ⟨g1, arr, elem, lo, hi, p1, p2, p3, p4, p5, p6⟩ := hB
          simp only [Blk.good] at g1
          have hlen : ((zs.drop off).take len).length = len := by simp; omega
          refine ⟨some ⟨L.g, L.β + off, none⟩, c, by rw [hlen], by rw [hlen]; exact q1, fun _ => ⟨_, rfl, ⟨.inr ⟨hlent (List.ne_nil_of_mem hmem), o3⟩, o1, o2⟩, fun j hj => ?_⟩⟩
          rw [hlen] at hj
          have hget : zs[off + j]? = some (zs.getD (off + j) 0) := by
            rw [List.getD_eq_getElem?_getD, List.getElem?_eq_getElem (by omega)]; rfl
          obtain ⟨v, e3, e4⟩ := p6 (off + j) (.i k' (zs.getD (off + j) 0)) (by show (zs[off + j]?).map _ = _; rw [hget]; rfl)
          simp only [ScR] at e4
          subst e4
          have : ((zs.drop off).take len).getD j 0 = zs.getD (off + j) 0 := by
            simp [List.getD_eq_getElem?_getD, List.getElem?_take, List.getElem?_drop, hj]
          rw [this, addr_add]
          show w.cell? _ = _
          have hlt : L.β + off + j < L.sz := by have := p3; simp only [Blk.len] at this; omega
          have := p5.1 (L.β + off + j) hlt
          simp [World.cell?, p1, this]
          rw [Nat.add_assoc]
          exact e3
      · cases h
    · rename_i hz
      simp only [Option.some.injEq, Prod.mk.injEq] at h
      obtain ⟨rfl, rfl⟩ := h
      rcases hV with ⟨q1, _, A, rfl⟩ | ⟨L, c, hL, rfl, q1, q2, q3⟩
      · exact ⟨A, 0, by simp, by simp, by simp⟩
      · have hC : len = 0 := hC
        subst hC
        exact ⟨_, c, rfl, by simp, by simp⟩
    · cases h
  · cases h
theorem rowsOf_R (hM : MemR E σ M w) (hfs : lookAll M fs = some kfs) (hl : lookAll M ms = some kms) (hd : ∀ b ∈ ms, b ∉ fs) (hlent : ms ≠ [] → lent = true) : ∀ {l : List Sc} {C : Prop} {xss : List (List Int)},
    rowsOf ms kms l = some (C, xss) → C → xss.length = l.length ∧ ∀ j s, l[j]? = some s → ∀ V, ScR E σ s V → RoR (callE E σ w fs lent κ) .u8 (xss.getD j []) V
  | [], C, xss, h, hC => by
    simp only [rowsOf, Option.some.injEq, Prod.mk.injEq] at h
    obtain ⟨_, rfl⟩ := h
    exact ⟨rfl, fun j s hs => by simp at hs⟩
  | s :: r, C, xss, h, hC => by
    simp only [rowsOf] at h
    split at h
    · rename_i C1 xs C2 xss' h1 h2
      simp only [Option.some.injEq, Prod.mk.injEq] at h
      obtain ⟨rfl, rfl⟩ := h
      obtain ⟨i1, i2⟩ := rowsOf_R hM hfs hl hd hlent h2 hC.2
      refine ⟨by simp [i1], fun j s' hs V hV => ?_⟩
      cases j with
      | zero =>
        simp only [List.getElem?_cons_zero, Option.some.injEq] at hs
        subst hs
        simpa using roOf_R hM hfs hl hd hlent h1 hC.1 hV
      | succ j => simpa using i2 j s' (by simpa using hs) V hV
    · cases h
theorem lent_R (hM : MemR E σ M w) (hfs : lookAll M fs = some kfs) (hl : lookAll M ms = some kms) (hd : ∀ b ∈ ms, b ∉ fs) (hlent : ms ≠ [] → lent = true) {b off len : Nat} {cap : Option Nat} {k : Blk} {V : Value}
    (hz : lookZ b ms kms = some k) (hC : off + len ≤ k.len) (hV : ScR E σ (.sl b off len 1 cap) V) :
    ∃ A c, V = .slice A len c ∧ len ≤ c ∧ (0 < len → ∃ ad, A = some ad ∧ (callE E σ w fs lent κ).old ad.block ∧ ∀ j, j < len → ∃ s v, k.get? (off + j) = some s ∧ w.cell? (ad.add j) = some v ∧ ScR E σ s v) := by
  obtain ⟨hblk, hmem⟩ := lookZ_look hl hz
  have hB := hM.blk b _ hblk
  rcases hV with ⟨q1, _, A, rfl⟩ | ⟨L, c, hL, rfl, q1, q2, q3⟩
  · subst q1
    exact ⟨A, 0, rfl, Nat.le_refl _, fun h => absurd h (Nat.lt_irrefl _)⟩
  · obtain ⟨o1, o2, o3⟩ := sl_out hM hfs hd hblk hmem hL
    rw [hL] at hB
    obtain ⟨g1, arr, elem, lo, hi, p1, p2, p3, p4, p5, p6⟩ := hB
    refine ⟨_, c, rfl, q1, fun _ => ⟨_, rfl, ⟨.inr ⟨hlent (List.ne_nil_of_mem hmem), o3⟩, o1, o2⟩, fun j hj => ?_⟩⟩
    obtain ⟨s, hs⟩ := Blk.get_some g1 (show off + j < k.len by omega)
    obtain ⟨v, e3, e4⟩ := p6 (off + j) _ hs
    refine ⟨s, v, hs, ?_, e4⟩
    rw [addr_add]
    have hlt : L.β + off + j < L.sz := by omega
    have := p5.1 (L.β + off + j) hlt
    simp [World.cell?, p1, this]
    rw [Nat.add_assoc]
    exact e3
theorem lend_R (hM : MemR E σ M w) (hfs : lookAll M fs = some kfs) (hl : lookAll M ms = some kms) (hd : ∀ b ∈ ms, b ∉ fs) (hlent : ms ≠ [] → lent = true) {ns : Ren} {U : Nat} (hns : renOk ns U = true) :
    ∀ {ps : List Pass} {args vs : List AV} {m : List Value} {C : Prop}, lendAll ns ms kms ps args = some (C, vs) → C → All2 (AVR E σ) args m → All2 (AVR (callE E σ w fs lent (sigOf σ ns)) (sigOf σ ns)) vs m := by
  intro ps
  induction ps with
  | nil =>
    intro args vs m C h2 hC h3
    cases args with
    | nil =>
      simp only [lendAll, Option.some.injEq, Prod.mk.injEq] at h2
      obtain ⟨_, rfl⟩ := h2
      cases m with
      | nil => trivial
      | cons _ _ => exact h3.elim
    | cons _ _ => simp [lendAll] at h2
  | cons p ps ih =>
    intro args vs m C h2 hC h3
    cases args with
    | nil => cases p <;> simp [lendAll] at h2
    | cons v r =>
      cases m with
      | nil => exact h3.elim
      | cons V m =>
        have hg := grow0 (lent := lent) (κ := sigOf σ ns) hM hfs
        cases p with
        | val =>
          cases v with
          | sc s =>
            simp only [lendAll] at h2
            split at h2
            · rename_i C' vs' e1 e2
              simp only [Option.some.injEq, Prod.mk.injEq] at h2
              obtain ⟨rfl, rfl⟩ := h2
              refine ⟨?_, ih e2 hC h3.2⟩
              have h4 := h3.1
              cases s <;> first | exact h4 | exact Bool.noConfusion (show false = true from e1)
            · cases h2
          | ints k n xs =>
            simp only [lendAll] at h2
            split at h2
            · rename_i C' vs' e2
              simp only [Option.some.injEq, Prod.mk.injEq] at h2
              obtain ⟨rfl, rfl⟩ := h2
              exact ⟨h3.1, ih e2 hC h3.2⟩
            · cases h2
          | agg l => simp [lendAll] at h2
          | arr v xs => simp [lendAll] at h2
          | tup l => simp [lendAll] at h2
        | ro k =>
          cases v with
          | ints _ _ _ => simp [lendAll] at h2
          | agg l => simp [lendAll] at h2
          | arr v xs => simp [lendAll] at h2
          | tup l => simp [lendAll] at h2
          | sc s =>
            simp only [lendAll] at h2
            split at h2
            · rename_i C1 xs C2 vs' e1 e2
              simp only [Option.some.injEq, Prod.mk.injEq] at h2
              obtain ⟨rfl, rfl⟩ := h2
              exact ⟨roOf_R hM hfs hl hd hlent e1 hC.1 h3.1, ih e2 hC.2 h3.2⟩
            · cases h2
        | io =>
          have h2' : (match v.ren ns, lendAll ns ms kms ps r with
            | some v', some (C, vs) => some (C, v' :: vs)
            | _, _ => none) = some (C, vs) := by
            cases v <;> simpa only [lendAll] using h2
          split at h2'
          · rename_i v' C' vs' e1 e2
            simp only [Option.some.injEq, Prod.mk.injEq] at h2'
            obtain ⟨rfl, rfl⟩ := h2'
            exact ⟨(AV.ren_R hns e1 h3.1).grow hg, ih e2 hC h3.2⟩
          · cases h2'
        | rob =>
          cases v with
          | ints _ _ _ => simp [lendAll] at h2
          | agg l => simp [lendAll] at h2
          | arr v xs => simp [lendAll] at h2
          | tup l => simp [lendAll] at h2
          | sc s =>
            cases s with
            | rob xs =>
              simp only [lendAll] at h2
              split at h2
              · rename_i C' vs' e2
                simp only [Option.some.injEq, Prod.mk.injEq] at h2
                obtain ⟨rfl, rfl⟩ := h2
                exact ⟨AVR.grow (v := .sc (.rob xs)) (σ := sigOf σ ns) hg h3.1, ih e2 hC h3.2⟩
              · cases h2
            | sl b off len es cap =>
              simp only [lendAll] at h2
              split at h2
              · rename_i l hz
                split at h2
                · rename_i C0 xss C' vs' e1 e2
                  cases hes : Nat.beq es 1
                  · simp [hes] at h2
                  · simp only [hes, cond_true, Option.some.injEq, Prod.mk.injEq] at h2
                    obtain ⟨rfl, rfl⟩ := h2
                    have hes1 := Nat.eq_of_beq_eq_true hes
                    subst hes1
                    refine ⟨?_, ih e2 hC.2 h3.2⟩
                    obtain ⟨hle, hC0⟩ := hC.1
                    obtain ⟨hblk, hmem⟩ := lookZ_look hl hz
                    obtain ⟨i1, i2⟩ := rowsOf_R (κ := sigOf σ ns) hM hfs hl hd hlent e1 hC0
                    have hll : ((l.drop off).take len).length = len := by simp; omega
                    rw [hll] at i1
                    have hB := hM.blk b _ hblk
                    rcases h3.1 with ⟨q1, _, A, rfl⟩ | ⟨L, c, hL, rfl, q1, q2, q3⟩
                    · exact ⟨A, 0, by simp [i1, q1], by simp [i1, q1], by simp [i1, q1]⟩
                    · obtain ⟨o1, o2, o3⟩ := sl_out hM hfs hd hblk hmem hL
                      rw [hL] at hB
                      obtain ⟨g1, arr, elem, lo, hi, p1, p2, p3, p4, p5, p6⟩ := hB
                      refine ⟨some ⟨L.g, L.β + off, none⟩, c, by rw [i1], by rw [i1]; exact q1, fun _ => ⟨_, rfl, ⟨.inr ⟨hlent (List.ne_nil_of_mem hmem), o3⟩, o1, o2⟩, fun j hj => ?_⟩⟩
                      rw [i1] at hj
                      have hget : l[off + j]? = some (l[off + j]'(by omega)) := List.getElem?_eq_getElem _
                      obtain ⟨v, e3, e4⟩ := p6 (off + j) _ hget
                      refine ⟨v, ?_, i2 j (l[off + j]'(by omega)) (by simp [List.getElem?_take, List.getElem?_drop, hj, hget]) v e4⟩
                      rw [addr_add]
                      show w.cell? _ = _
                      have hlt : L.β + off + j < L.sz := by have := p3; simp only [Blk.len] at this; omega
                      have := p5.1 (L.β + off + j) hlt
                      simp [World.cell?, p1, this]
                      rw [Nat.add_assoc]
                      exact e3
                · cases h2
              · rename_i xs hz
                split at h2
                · rename_i C' vs' e2
                  cases hes : Nat.beq es 1
                  · simp [hes] at h2
                  · simp only [hes, cond_true, Option.some.injEq, Prod.mk.injEq] at h2
                    obtain ⟨rfl, rfl⟩ := h2
                    have hes1 := Nat.eq_of_beq_eq_true hes
                    subst hes1
                    refine ⟨?_, ih e2 hC.2 h3.2⟩
                    have hle : off + len ≤ xs.length := hC.1
                    rw [partV_eq]
                    have hll : ((xs.drop off).take len).length = len := by simp; omega
                    obtain ⟨A, c, rfl, q1, q2⟩ := lent_R (κ := sigOf σ ns) hM hfs hl hd hlent hz hC.1 h3.1
                    refine ⟨A, c, by rw [hll], by rw [hll]; exact q1, fun hp => ?_⟩
                    rw [hll] at hp
                    obtain ⟨ad, rfl, o1, o2⟩ := q2 hp
                    refine ⟨ad, rfl, o1, fun j hj => ?_⟩
                    rw [hll] at hj
                    obtain ⟨s, v, a1, a2, a3⟩ := o2 j hj
                    have hget : xs[off + j]? = some (xs.getD (off + j) []) := by
                      rw [List.getD_eq_getElem?_getD, List.getElem?_eq_getElem (by omega)]; rfl
                    have hs : s = .ro .u8 (xs.getD (off + j) []) := by
                      have : (xs[off + j]?).map (VK.sc .row) = some s := a1
                      rw [hget] at this
                      injection this with this
                      exact this.symm
                    subst hs
                    have : ((xs.drop off).take len).getD j [] = xs.getD (off + j) [] := by
                      simp [List.getD_eq_getElem?_getD, List.getElem?_take, List.getElem?_drop, hj]
                    rw [this]
                    exact ⟨v, a2, hg.ro a3⟩
                · cases h2
              · cases h2
            | nils =>
              simp only [lendAll] at h2
              split at h2
              · rename_i C' vs' e2
                simp only [Option.some.injEq, Prod.mk.injEq] at h2
                obtain ⟨rfl, rfl⟩ := h2
                exact ⟨⟨none, 0, h3.1, Nat.le_refl _, fun h => absurd h (Nat.lt_irrefl _)⟩, ih e2 hC h3.2⟩
              · cases h2
            | _ => simp [lendAll] at h2
        | ros =>
          cases v with
          | ints _ _ _ => simp [lendAll] at h2
          | agg l => simp [lendAll] at h2
          | arr v xs => simp [lendAll] at h2
          | tup l => simp [lendAll] at h2
          | sc s =>
            cases s with
            | ros xs =>
              simp only [lendAll] at h2
              split at h2
              · rename_i C' vs' e2
                simp only [Option.some.injEq, Prod.mk.injEq] at h2
                obtain ⟨rfl, rfl⟩ := h2
                exact ⟨AVR.grow (v := .sc (.ros xs)) (σ := sigOf σ ns) hg h3.1, ih e2 hC h3.2⟩
              · cases h2
            | nils =>
              simp only [lendAll] at h2
              split at h2
              · rename_i C' vs' e2
                simp only [Option.some.injEq, Prod.mk.injEq] at h2
                obtain ⟨rfl, rfl⟩ := h2
                exact ⟨⟨none, 0, h3.1, Nat.le_refl _, fun h => absurd h (Nat.lt_irrefl _)⟩, ih e2 hC h3.2⟩
              · cases h2
            | sl b off len es cap =>
              simp only [lendAll] at h2
              split at h2
              · rename_i xs hz
                split at h2
                · rename_i C' vs' e2
                  cases hes : Nat.beq es 1
                  · simp [hes] at h2
                  · simp only [hes, cond_true, Option.some.injEq, Prod.mk.injEq] at h2
                    obtain ⟨rfl, rfl⟩ := h2
                    have hes1 := Nat.eq_of_beq_eq_true hes
                    subst hes1
                    refine ⟨?_, ih e2 hC.2 h3.2⟩
                    have hle : off + len ≤ xs.length := hC.1
                    rw [partV_eq]
                    have hll : ((xs.drop off).take len).length = len := by simp; omega
                    obtain ⟨A, c, rfl, q1, q2⟩ := lent_R (κ := sigOf σ ns) hM hfs hl hd hlent hz hC.1 h3.1
                    refine ⟨A, c, by rw [hll], by rw [hll]; exact q1, fun hp => ?_⟩
                    rw [hll] at hp
                    obtain ⟨ad, rfl, o1, o2⟩ := q2 hp
                    refine ⟨ad, rfl, o1, fun j hj => ?_⟩
                    rw [hll] at hj
                    obtain ⟨s, v, a1, a2, a3⟩ := o2 j hj
                    have hget : xs[off + j]? = some (xs.getD (off + j) ⟨#[]⟩) := by
                      rw [List.getD_eq_getElem?_getD, List.getElem?_eq_getElem (by omega)]; rfl
                    have hs : s = .s (xs.getD (off + j) ⟨#[]⟩) := by
                      have : (xs[off + j]?).map (VK.sc .str) = some s := a1
                      rw [hget] at this
                      injection this with this
                      exact this.symm
                    subst hs
                    have : ((xs.drop off).take len).getD j ⟨#[]⟩ = xs.getD (off + j) ⟨#[]⟩ := by
                      simp [List.getD_eq_getElem?_getD, List.getElem?_take, List.getElem?_drop, hj]
                    rw [this]
                    have a3' : v = .string (xs.getD (off + j) ⟨#[]⟩) := a3
                    rw [← a3']
                    exact a2
                · cases h2
              · rename_i l hz
                split at h2
                · rename_i xs C' vs' e1 e2
                  cases hes : Nat.beq es 1
                  · simp [hes] at h2
                  · simp only [hes, cond_true, Option.some.injEq, Prod.mk.injEq] at h2
                    obtain ⟨rfl, rfl⟩ := h2
                    have hes1 := Nat.eq_of_beq_eq_true hes
                    subst hes1
                    refine ⟨?_, ih e2 hC.2 h3.2⟩
                    have hle : off + len ≤ l.length := hC.1
                    have hll : xs.length = len := by rw [VK.unL_len e1]; simp; omega
                    obtain ⟨A, c, rfl, q1, q2⟩ := lent_R (κ := sigOf σ ns) hM hfs hl hd hlent hz hC.1 h3.1
                    refine ⟨A, c, by rw [hll], by rw [hll]; exact q1, fun hp => ?_⟩
                    rw [hll] at hp
                    obtain ⟨ad, rfl, o1, o2⟩ := q2 hp
                    refine ⟨ad, rfl, o1, fun j hj => ?_⟩
                    rw [hll] at hj
                    obtain ⟨s, v, a1, a2, a3⟩ := o2 j hj
                    have hx : xs[j]? = some (xs.getD j ⟨#[]⟩) := by
                      rw [List.getD_eq_getElem?_getD, List.getElem?_eq_getElem (by omega)]; rfl
                    obtain ⟨s', b1, b2⟩ := VK.unL_get e1 hx
                    have hs : s' = s := by
                      have c1 : l[off + j]? = some s := a1
                      rw [List.getElem?_take, if_pos hj, List.getElem?_drop, c1] at b1
                      injection b1 with b1
                      exact b1.symm
                    subst hs
                    have a3' : v = .string (xs.getD j ⟨#[]⟩) := VK.un_R b2 a3
                    rw [← a3']
                    exact a2
                · cases h2
              · cases h2
            | _ => simp [lendAll] at h2
theorem downB_at {ns : Ren} : ∀ {ks ks' : List Blk}, downB ns ks = some ks' → ks'.length = ks.length ∧ ∀ (j : Nat) (k' : Blk), ks'[j]? = some k' → ∃ k, ks[j]? = some k ∧ k.ren ns = some k'
  | [], ks', h => by
    simp only [downB, Option.some.injEq] at h
    subst h
    exact ⟨rfl, fun j k' hk => by simp at hk⟩
  | k :: r, ks', h => by
    simp only [downB] at h
    split at h
    · rename_i k1 r1 h1 h2
      simp only [Option.some.injEq] at h
      subst h
      obtain ⟨i1, i2⟩ := downB_at h2
      refine ⟨by simp [i1], fun j k' hk => ?_⟩
      cases j with
      | zero =>
        simp only [List.getElem?_cons_zero, Option.some.injEq] at hk
        subst hk
        exact ⟨k, rfl, h1⟩
      | succ j => exact i2 j k' (by simpa using hk)
    · cases h
theorem upB_at {up : Ren} : ∀ {l l' : List (Option Blk)}, upB up l = some l' → l'.length = l.length ∧ ∀ (j : Nat) (k' : Blk), l'[j]? = some (some k') → ∃ k, l[j]? = some (some k) ∧ k.ren up = some k'
  | [], l', h => by
    simp only [upB, Option.some.injEq] at h
    subst h
    exact ⟨rfl, fun j k' hk => by simp at hk⟩
  | none :: r, l', h => by
    simp only [upB] at h
    split at h
    · rename_i r1 h2
      simp only [Option.some.injEq] at h
      subst h
      obtain ⟨i1, i2⟩ := upB_at h2
      refine ⟨by simp [i1], fun j k' hk => ?_⟩
      cases j with
      | zero => simp at hk
      | succ j => exact i2 j k' (by simpa using hk)
    · cases h
  | some k :: r, l', h => by
    simp only [upB] at h
    split at h
    · rename_i k1 r1 h1 h2
      simp only [Option.some.injEq] at h
      subst h
      obtain ⟨i1, i2⟩ := upB_at h2
      refine ⟨by simp [i1], fun j k' hk => ?_⟩
      cases j with
      | zero =>
        simp only [List.getElem?_cons_zero, Option.some.injEq] at hk
        subst hk
        exact ⟨k, rfl, h1⟩
      | succ j => exact i2 j k' (by simpa using hk)
    · cases h
theorem zipN_look {i : Nat} : ∀ {l : List Blk} {b : Nat} {k : Blk}, look b (zipN i l) = some k → ∃ j, b = i + j ∧ l[j]? = some k
  | l, b, k, h => by
    induction l generalizing i with
    | nil => cases h
    | cons x r ih =>
      simp only [zipN, look] at h
      by_cases e : i = b
      · subst e
        simp only [beqT, cond_true, Option.some.injEq] at h
        exact ⟨0, rfl, by simp [h]⟩
      · simp only [beqF e, cond_false] at h
        obtain ⟨j, h1, h2⟩ := ih h
        exact ⟨j + 1, by omega, by simpa using h2⟩
theorem zipO_get {i : Nat} : ∀ {l : List (Option Blk)} {j : Nat} {k : Blk}, l[j]? = some (some k) → look (i + j) (zipO i l) = some k
  | l, j, k, h => by
    induction l generalizing i j with
    | nil => simp at h
    | cons x r ih =>
      cases j with
      | zero =>
        simp only [List.getElem?_cons_zero, Option.some.injEq] at h
        subst h
        simp [zipO, look, beqT]
      | succ j =>
        have := ih (i := i + 1) (j := j) (by simpa using h)
        rw [show i + (j + 1) = i + 1 + j by omega]
        cases x with
        | none => exact this
        | some y =>
          simp only [zipO, look]
          have e : i ≠ i + 1 + j := by omega
          simp only [beqF e, cond_false]
          exact this
theorem putAll_at {M' : Mem} {c : Nat} {k : Blk} (hk : look c M' = some k) : ∀ {ns : List Nat} {ks : List (Option Blk)} {M : Mem}, putAll ns ks M = some M' → (∃ i : Nat, ns[i]? = some c ∧ ks[i]? = some (some k)) ∨ (c ∉ ns ∧ look c M = some k)
  | [], [], M, h => by
    simp only [putAll, Option.some.injEq] at h
    subst h
    exact .inr ⟨by simp, hk⟩
  | [], _ :: _, M, h => by simp [putAll] at h
  | _ :: _, [], M, h => by simp [putAll] at h
  | b :: r, x :: ks, M, h => by
    simp only [putAll] at h
    rcases putAll_at hk h with ⟨i, h1, h2⟩ | ⟨h1, h2⟩
    · exact .inl ⟨i + 1, by simpa using h1, by simpa using h2⟩
    · cases x with
      | none =>
        simp only [put0, look_drop1] at h2
        split at h2
        · cases h2
        · rename_i e
          exact .inr ⟨by simp only [List.mem_cons, not_or]; exact ⟨e, h1⟩, h2⟩
      | some y =>
        simp only [put0, look_put1] at h2
        split at h2
        · rename_i e
          injection h2 with h2
          exact .inl ⟨0, by simp [e], by simp [h2]⟩
        · rename_i e
          exact .inr ⟨by simp only [List.mem_cons, not_or]; exact ⟨e, h1⟩, h2⟩
theorem downN_mem {j b : Nat} (h : fs[j]? = some b) : (b, j) ∈ downN fs := by
  have hj := (List.getElem?_eq_some_iff.1 h).1
  refine List.mem_iff_getElem?.2 ⟨j, ?_⟩
  unfold downN
  rw [List.getElem?_zip_eq_some]
  exact ⟨h, by rw [List.getElem?_range hj]⟩
theorem upN_mem {j c : Nat} : (j, c) ∈ upN fs nm nb ↔ (fs ++ (List.range nb).map (nm + ·))[j]? = some c := by
  unfold upN
  constructor
  · intro h
    obtain ⟨i, hi⟩ := List.mem_iff_getElem?.1 h
    rw [List.getElem?_zip_eq_some] at hi
    obtain ⟨h1, h2⟩ := hi
    have hi' := (List.getElem?_eq_some_iff.1 h1).1
    simp only [List.length_range] at hi'
    rw [List.getElem?_range hi'] at h1
    injection h1 with h1
    subst h1
    exact h2
  · intro h
    have hj := (List.getElem?_eq_some_iff.1 h).1
    simp only [List.length_append, List.length_map, List.length_range] at hj
    refine List.mem_iff_getElem?.2 ⟨j, ?_⟩
    rw [List.getElem?_zip_eq_some]
    exact ⟨by rw [List.getElem?_range hj], h⟩
theorem up_cases {j c : Nat} (h : (fs ++ (List.range nb).map (nm + ·))[j]? = some c) : (j < fs.length ∧ fs[j]? = some c) ∨ (fs.length ≤ j ∧ j - fs.length < nb ∧ c = nm + (j - fs.length)) := by
  by_cases hj : j < fs.length
  · rw [List.getElem?_append_left hj] at h
    exact .inl ⟨hj, h⟩
  · rw [List.getElem?_append_right (by omega)] at h
    simp only [List.getElem?_map, Option.map_eq_some_iff] at h
    obtain ⟨i, h1, h2⟩ := h
    have h3 := (List.getElem?_eq_some_iff.1 h1).1
    simp only [List.length_range] at h3
    rw [List.getElem?_range h3] at h1
    injection h1 with h1
    subst h1
    exact .inr ⟨by omega, h3, h2.symm⟩
theorem handed (hM : MemR E σ M w) (hfs : lookAll M fs = some kfs) {ks' : List Blk} (hns : renOk (downN fs) big = true) (hdn : downB (downN fs) kfs = some ks') :
    MemR (callE E σ w fs lent (sigOf σ (downN fs))) (sigOf σ (downN fs)) (zipN 0 ks') w := by
  obtain ⟨l1, l2⟩ := downB_at hdn
  obtain ⟨f1, f2⟩ := lookAll_at hfs
  have at1 : ∀ b k', look b (zipN 0 ks') = some k' → ∃ c k, fs[b]? = some c ∧ look c M = some k ∧ k.ren (downN fs) = some k' ∧ sigOf σ (downN fs) b = σ c := by
    intro b k' hb
    obtain ⟨j, rfl, hj⟩ := zipN_look hb
    obtain ⟨k, e1, e2⟩ := l2 j k' hj
    have hlt := (List.getElem?_eq_some_iff.1 e1).1
    have hc : fs[j]? = some (fs[j]'(by omega)) := List.getElem?_eq_getElem _
    obtain ⟨k2, e3, e4⟩ := f2 j _ hc
    rw [e1] at e3
    injection e3 with e3
    subst e3
    have hmem := downN_mem hc
    rw [Nat.zero_add]
    exact ⟨_, k, hc, e4, e2, sigOf_at hns (renOk_mem hns hmem).2.2⟩
  refine { blk := ?_, inj := ?_, old := fun _ _ => rfl, size := Nat.le_refl _, olds := fun g hg => hg.1, os := rfl, tape := rfl, output := rfl }
  · intro b k' hb
    obtain ⟨c, k, e1, e2, e3, e4⟩ := at1 b k' hb
    rw [e4]
    have hB := Blk.ren_R hns e3 (hM.blk c k e2)
    refine Blk.grow (grow0 hM hfs) (fun l hl hz => ?_) hB
    exact hz.2 ⟨c, List.mem_of_getElem? e1, l, hl, rfl⟩
  · intro b c x y L L' hb hc hL hL' hg
    obtain ⟨b1, k1, e1, e2, e3, e4⟩ := at1 b x hb
    obtain ⟨c1, k2, e5, e6, e7, e8⟩ := at1 c y hc
    have := hM.inj b1 c1 k1 k2 L L' e2 e6 (e4 ▸ hL) (e8 ▸ hL') hg
    subst this
    have h1 := (renOk_mem hns (downN_mem e1)).2.2
    have h2 := (renOk_mem hns (downN_mem e5)).2.2
    rw [h1] at h2
    injection h2
def backE (E E0 E1 : Env) (lent : Bool) : Env :=
  { P := E.P, w0 := E1.w0, old := fun g => (if lent = true then E.old g else E1.old g) ∧ (E.fz g ∨ (E1.fz g ∧ ¬ E0.fz g)), fz := fun g => E.fz g ∨ (E1.fz g ∧ ¬ E0.fz g), sub := fun _ h => h.2, kp := E.kp }
def sigUp (σ σ' : Sig) (up : Ren) : Sig := fun c => match sigOf σ' up c with
  | .unset => σ c
  | x => x
theorem back_grow {E1 : Env} (hg : Grow E E0) (hg' : Grow E0 E1) (hl : lent = false → ∀ g, E0.old g → E.old g) : Grow E (backE E E0 E1 lent) where
  P := rfl
  old g h := ⟨by split; exact h; exact hg'.old g (hg.old g h), .inl (E.sub g h)⟩
  fz g h := .inl h
  w0 g h := (hg'.w0 g (hg.fz g h)).trans (hg.w0 g h)
  new g h := by
    cases hb : lent with
    | true =>
      have h1 := h.1
      rw [if_pos hb] at h1
      exact .inl h1
    | false =>
      have h1 := h.1
      rw [if_neg (by rw [hb]; decide)] at h1
      rcases hg'.new g h1 with h2 | h2
      · exact .inl (hl hb g h2)
      · exact .inr fun h3 => h2 (hg.fz g h3)
  size := Nat.le_trans hg.size hg'.size
  os := hg'.os.trans hg.os
  tape := hg'.tape.trans hg.tape
  output := hg'.output.trans hg.output
theorem back_old {E1 : Env} (hg : Grow E E0) (hg' : Grow E0 E1) (hl : lent = false → ∀ g, E0.old g → E.old g) : lent = false → ∀ g, E1.old g → (backE E E0 E1 lent).old g := by
  intro hb g h
  refine ⟨by rw [if_neg (by rw [hb]; decide)]; exact h, ?_⟩
  rcases hg'.new g h with h2 | h2
  · exact .inl (E.sub g (hl hb g h2))
  · exact .inr ⟨E1.sub g h, h2⟩
theorem sound_of_pure {P : Program} {G : Globs} {f : FuncId} {ps : List Pass} {ms fs : List Nat} {nb : Nat} {spec : List AV → List Blk → Option (Prop × Ret)} (hnb : nb ≤ 16) (h : PureAt P G f fs.length spec) : SoundAt P G f (callD ps ms fs nb spec) := by
  intro E σ M w args Vs nm A C v M' hP hG hM hargs hn hA hrun hC
  unfold callD at hA
  cases hck : renOk (downN fs) big && renOk (upN fs nm nb) big && ms.all (fun b => !fs.any (Nat.beq b))
  · simp [hck] at hA
  simp only [hck, cond_true, Option.some.injEq] at hA
  subst hA
  simp only [Bool.and_eq_true] at hck
  obtain ⟨⟨hns, hup⟩, hdis⟩ := hck
  have hd : ∀ b ∈ ms, b ∉ fs := by
    intro b hb hf
    rw [List.all_eq_true] at hdis
    have h1 := hdis b hb
    have h2 : fs.any (Nat.beq b) = true := List.any_eq_true.2 ⟨b, hf, beqT b⟩
    rw [h2] at h1
    cases h1
  unfold Deed.run at hrun
  simp only at hrun
  split at hrun
  · cases hrun
  rename_i ks hks
  obtain ⟨hl, hfs⟩ := lookAll_append hks
  split at hrun
  · cases hrun
  rename_i C1 v1 cs hgo
  split at hrun
  · cases hrun
  rename_i M1 hput
  simp only [Option.some.injEq, Prod.mk.injEq] at hrun
  obtain ⟨rfl, rfl, rfl⟩ := hrun
  split at hgo
  rotate_left
  · cases hgo
  rename_i C2 vs ks' hlend hdown
  split at hgo
  rotate_left
  · cases hgo
  rename_i C3 r hspec
  split at hgo
  rotate_left
  · cases hgo
  rename_i v2 bs hv2 hbs
  cases hpl : Nat.beq r.bs.length (fs.length + nb) && (ms.isEmpty || r.plain)
  · simp [hpl] at hgo
  simp only [hpl, cond_true, Option.some.injEq, Prod.mk.injEq] at hgo
  obtain ⟨rfl, rfl, rfl⟩ := hgo
  simp only [Bool.and_eq_true] at hpl
  obtain ⟨hlen, hpl⟩ := hpl
  have hlen := Nat.eq_of_beq_eq_true hlen
  have hplain : (!ms.isEmpty) = true → r.plain = true := by
    intro q
    rw [Bool.or_eq_true] at hpl
    rcases hpl with h1 | h1
    · rw [h1] at q; cases q
    · exact h1
  have hlent : ms ≠ [] → (!ms.isEmpty) = true := by
    intro q
    cases ms with
    | nil => exact absurd rfl q
    | cons _ _ => rfl
  have hg0 : Grow E (callE E σ w fs (!ms.isEmpty) (sigOf σ (downN fs))) := grow0 hM hfs
  have hargs0 := lend_R hM hfs hl hd hlent hns hlend hC.1 hargs
  have hM0 := handed (lent := !ms.isEmpty) hM hfs hns hdown
  have hkl : ks'.length = fs.length := by
    rw [(downB_at hdown).1]
    exact ((lookAll_at hfs).1).symm
  have hkp : ∀ j, fs.length ≤ j → sigOf σ (downN fs) j = .unset := by
    intro j hj
    unfold sigOf
    split
    · rename_i b hb
      have hmem := look_mem hb
      unfold turned at hmem
      obtain ⟨p, hp, he⟩ := List.mem_map.1 hmem
      simp only [Prod.mk.injEq] at he
      obtain ⟨rfl, rfl⟩ := he
      obtain ⟨i, hi⟩ := List.mem_iff_getElem?.1 hp
      unfold downN at hi
      rw [List.getElem?_zip_eq_some] at hi
      have h3 := (List.getElem?_eq_some_iff.1 hi.2).1
      simp only [List.length_range] at h3
      have h4 := hi.2
      rw [List.getElem?_range h3] at h4
      injection h4 with h4
      omega
    · rfl
  generalize hE0 : callE E σ w fs (!ms.isEmpty) (sigOf σ (downN fs)) = E0 at *
  have hE0kp : E0.kp = sigOf σ (downN fs) := by rw [← hE0]; rfl
  have hE0fz : ∀ g, E0.fz g ↔ (g < w.heap.size ∧ ¬ inFeet σ fs g) := by intro g; rw [← hE0]; exact Iff.rfl
  have hE0old : (!ms.isEmpty) = false → ∀ g, E0.old g → E.old g := by
    intro q g hg
    rw [← hE0] at hg
    rcases hg.1 with h1 | h1
    · exact h1
    · rw [q] at h1; cases h1.1
  have hE0w : E0.w0 = w := by rw [← hE0]; rfl
  refine (h E0 w vs ks' Vs C3 r (hg0.P.trans hP) (hG.grow hg0) hkl (fun j hj => by rw [hE0kp]; exact hkp j hj) (by rw [hE0kp]; exact hM0) (by rw [hE0kp]; exact hargs0) hspec hC.2).mono ?_
  rintro V w' ⟨E1, σ', hg1, hk, r1, r2⟩
  rw [hE0kp] at hk
  have gr := back_grow (lent := !ms.isEmpty) hg0 hg1 hE0old
  have bo := back_old (lent := !ms.isEmpty) hg0 hg1 hE0old
  generalize hup' : upN fs nm nb = up at *
  have upm : ∀ {j c : Nat}, (j, c) ∈ up ↔ (fs ++ (List.range nb).map (nm + ·))[j]? = some c := by
    intro j c
    rw [← hup']
    exact upN_mem
  have sg1 : ∀ {j c : Nat}, (j, c) ∈ up → sigOf σ' up c = σ' j := fun hm => sigOf_at hup (renOk_mem hup hm).2.2
  have sg0 : ∀ c, (∀ j, (j, c) ∉ up) → sigOf σ' up c = .unset := by
    intro c hc
    unfold sigOf
    split
    · rename_i b hb
      have hmem := look_mem hb
      unfold turned at hmem
      obtain ⟨p, hp, he⟩ := List.mem_map.1 hmem
      simp only [Prod.mk.injEq] at he
      obtain ⟨rfl, rfl⟩ := he
      exact absurd hp (hc p.1)
    · rfl
  have feet_sig : ∀ {j c : Nat}, fs[j]? = some c → σ' j = σ c ∨ σ' j = .unset := by
    intro j c hc
    have hj := (List.getElem?_eq_some_iff.1 hc).1
    rcases hk j hj with h1 | h1
    · refine .inl ?_
      rw [h1]
      exact sigOf_at hns (renOk_mem hns (downN_mem hc)).2.2
    · exact .inr h1
  have same : ∀ c, ¬ (nm ≤ c ∧ c < nm + 16) → sigUp σ σ' up c = σ c := by
    intro c hc
    unfold sigUp
    by_cases he : ∃ j, (j, c) ∈ up
    · obtain ⟨j, hj⟩ := he
      rw [sg1 hj]
      rcases up_cases (upm.1 hj) with ⟨q1, q2⟩ | ⟨q1, q2, q3⟩
      · rcases feet_sig q2 with h1 | h1
        · rw [h1]
          cases σ c <;> rfl
        · rw [h1]
      · omega
    · rw [sg0 c fun j hj => he ⟨j, hj⟩]
  have hx : Ext σ (sigUp σ σ' up) := by
    intro c hc
    by_cases hr : nm ≤ c ∧ c < nm + 16
    · exact absurd (hn c hr.1 hr.2) hc
    · exact same c hr
  have hx' : Ext (sigOf σ' up) (sigUp σ σ' up) := by
    intro c hc
    unfold sigUp
    cases hs : sigOf σ' up c with
    | unset => exact absurd hs hc
    | nil => rfl
    | «at» L => rfl
  have rp : (!ms.isEmpty) = true → r.v.plain = true ∧ r.bs.all OBlk.plain = true := by
    intro q
    have := hplain q
    unfold Ret.plain at this
    rw [Bool.and_eq_true] at this
    exact this
  refine ⟨backE E E0 E1 (!ms.isEmpty), sigUp σ σ' up, gr, hx, same, ?_, ?_⟩
  · exact (AV.ren_R hup hv2 (AV.env bo rfl (fun q => (rp q).1) r1)).ext hx'
  have hcase : ∀ c k, look c M1 = some k → (∃ j k0, (j, c) ∈ up ∧ look j (zipO 0 r.bs) = some k0 ∧ r.bs[j]? = some (some k0) ∧ k0.ren up = some k) ∨ (c ∉ fs ∧ look c M = some k) := by
    intro c k hck
    rcases putAll_at hck hput with ⟨i, h1, h2⟩ | ⟨h1, h2⟩
    · obtain ⟨k0, h3, h4⟩ := (upB_at hbs).2 i k h2
      refine .inl ⟨i, k0, upm.2 h1, ?_, h3, h4⟩
      have := zipO_get (i := 0) h3
      simpa using this
    · exact .inr ⟨fun hf => h1 (List.mem_append_left _ hf), h2⟩
  have hzz : ∀ g, ¬ E1.fz g → ¬ (backE E E0 E1 (!ms.isEmpty)).fz g := by
    intro g h1 h2
    rcases h2 with h2 | h2
    · exact h1 (hg1.fz g (hg0.fz g h2))
    · exact h1 h2.1
  have other : ∀ c k, c ∉ fs → look c M = some k → ∀ L, σ c = .at L → E0.fz L.g := by
    intro c k hcf hc L hL
    have hB := hM.blk c k hc
    rw [hL] at hB
    obtain ⟨_, arr, elem, lo, hi, q1, _⟩ := hB
    refine (hE0fz _).2 ⟨heap_lt q1, ?_⟩
    rintro ⟨b, hb, L', hL', he⟩
    obtain ⟨kb, hkb⟩ := feet_at hfs hb
    have := hM.inj b c kb k L' L hkb hc hL' hL he
    subst this
    exact hcf hb
  have heap' : ∀ g, E0.fz g → w'.heap[g]? = w.heap[g]? := by
    intro g hg
    rw [r2.old g (hg1.fz g hg), hg1.w0 g hg, hE0w]
  have notnew : ∀ c k, c ∉ fs → look c M = some k → (∀ j, (j, c) ∉ up) ∨ σ c = .unset := by
    intro c k hcf hc
    by_cases he : ∃ j, (j, c) ∈ up
    · obtain ⟨j, hj⟩ := he
      rcases up_cases (upm.1 hj) with ⟨q1, q2⟩ | ⟨q1, q2, q3⟩
      · exact absurd (List.mem_of_getElem? q2) hcf
      · exact .inr (hn c (by omega) (by omega))
    · exact .inl fun j hj => he ⟨j, hj⟩
  refine { blk := ?_, inj := ?_, old := ?_, size := ?_, olds := ?_, os := ?_, tape := ?_, output := ?_ }
  · intro c k hck
    rcases hcase c k hck with ⟨j, k0, h1, h2, h3, h4⟩ | ⟨h1, h2⟩
    · have hB := r2.blk j k0 h2
      have hp : (!ms.isEmpty) = true → k0.plain = true := by
        intro q
        have := (rp q).2
        rw [List.all_eq_true] at this
        exact this _ (List.mem_of_getElem? h3)
      have hB2 := Blk.ren_R hup h4 (Blk.env bo rfl hzz hp hB)
      have hne : σ' j ≠ .unset := by intro e; rw [e] at hB; exact hB
      have e1 : sigUp σ σ' up c = σ' j := by
        rw [hx' c (by rw [sg1 h1]; exact hne), sg1 h1]
      rw [e1]
      exact hB2.ext hx'
    · have hB := hM.blk c k h2
      have hne : σ c ≠ .unset := by intro e; rw [e] at hB; exact hB
      rw [hx c hne]
      refine BlkR.ext hx (BlkR.same (w := w) (fun L hL => heap' _ (other c k h1 h2 L hL)) (Blk.grow gr (fun L hL hz => ?_) hB))
      have ho := other c k h1 h2 L hL
      rcases hz with hz | hz
      · rw [hL] at hB
        obtain ⟨_, arr, elem, lo, hi, _, _, _, q4, _⟩ := hB
        exact q4 hz
      · exact hz.2 ho
  · intro b c x y L L' hb hc hL hL' hg
    have newL : ∀ c k, (∃ j k0, (j, c) ∈ up ∧ look j (zipO 0 r.bs) = some k0 ∧ r.bs[j]? = some (some k0) ∧ k0.ren up = some k) → ∀ L, sigUp σ σ' up c = .at L → ∃ j k0, (j, c) ∈ up ∧ look j (zipO 0 r.bs) = some k0 ∧ σ' j = .at L ∧ ¬ E1.fz L.g := by
      rintro c k ⟨j, k0, h1, h2, h3, h4⟩ L hL
      have hB := r2.blk j k0 h2
      have hne : σ' j ≠ .unset := by intro e; rw [e] at hB; exact hB
      have e1 : sigUp σ σ' up c = σ' j := by
        rw [hx' c (by rw [sg1 h1]; exact hne), sg1 h1]
      rw [e1] at hL
      rw [hL] at hB
      obtain ⟨_, arr, elem, lo, hi, _, _, _, q4, _⟩ := hB
      exact ⟨j, k0, h1, h2, hL, q4⟩
    have oldL : ∀ c k, c ∉ fs → look c M = some k → ∀ L, sigUp σ σ' up c = .at L → σ c = .at L ∧ E1.fz L.g := by
      intro c k h1 h2 L hL
      have hB := hM.blk c k h2
      have hne : σ c ≠ .unset := by intro e; rw [e] at hB; exact hB
      rw [hx c hne] at hL
      exact ⟨hL, hg1.fz _ (other c k h1 h2 L hL)⟩
    rcases hcase b x hb with h1 | ⟨h1, h2⟩
    · obtain ⟨j, k0, p1, p2, p3, p4⟩ := newL b x h1 L hL
      rcases hcase c y hc with h3 | ⟨h3, h4⟩
      · obtain ⟨i, k1, q1, q2, q3, q4⟩ := newL c y h3 L' hL'
        have := r2.inj j i k0 k1 L L' p2 q2 p3 q3 hg
        subst this
        have e1 := (renOk_mem hup p1).2.2
        have e2 := (renOk_mem hup q1).2.2
        rw [e1] at e2
        injection e2
      · obtain ⟨q1, q2⟩ := oldL c y h3 h4 L' hL'
        exact absurd (hg ▸ q2) p4
    · obtain ⟨p1, p2⟩ := oldL b x h1 h2 L hL
      rcases hcase c y hc with h3 | ⟨h3, h4⟩
      · obtain ⟨i, k1, q1, q2, q3, q4⟩ := newL c y h3 L' hL'
        exact absurd (hg ▸ p2) q4
      · obtain ⟨q1, q2⟩ := oldL c y h3 h4 L' hL'
        exact hM.inj b c x y L L' h2 h4 p1 q1 hg
  · intro g hg
    rcases hg with hg | hg
    · exact r2.old g (hg1.fz g (hg0.fz g hg))
    · exact r2.old g hg.1
  · exact r2.size
  · intro g hg
    rcases hg with hg | hg
    · exact r2.olds g (hg1.fz g (hg0.fz g hg))
    · exact r2.olds g hg.1
  · exact r2.os
  · exact r2.tape
  · exact r2.output
end
end
end Go.Vm
set_option linter.unusedVariables false
set_option linter.unusedSimpArgs false
namespace Go.Vm
open Go
structure Sig1 where
  m : Nat
  nb : Nat
  spec : List AV → List Blk → Option (Prop × Ret)
structure Known (P : Program) (G : Globs) (f : FuncId) (z : Sig1) : Prop where
  nb : z.nb ≤ 16
  pure : PureAt P G f z.m z.spec
abbrev TT : Prop := True ∧ True
theorem tt : TT := ⟨trivial, trivial⟩
theorem lookAll_same {M N : Mem} (h : ∀ b, look b N = look b M) : ∀ l : List Nat, lookAll N l = lookAll M l
  | [] => rfl
  | b :: r => by rw [lookAll, lookAll, h b, lookAll_same h r]
theorem putAll_same : ∀ (ws : List Nat) (cs : List (Option Blk)) {M N M' : Mem}, (∀ b, look b N = look b M) → putAll ws cs M = some M' → ∃ N', putAll ws cs N = some N' ∧ ∀ b, look b N' = look b M'
  | [], [], M, N, M', h, hp => by
    simp only [putAll, Option.some.injEq] at hp
    subst hp
    exact ⟨N, rfl, h⟩
  | b :: ws, c :: cs, M, N, M', h, hp => by
    rw [putAll] at hp ⊢
    refine putAll_same ws cs (M := put0 b c M) (fun d => ?_) hp
    cases c with
    | none => show look d (drop1 b N) = look d (drop1 b M); rw [look_drop1, look_drop1, h d]
    | some k => show look d (put1 b k N) = look d (put1 b k M); rw [look_put1, look_put1, h d]
  | [], _ :: _, _, _, _, _, hp => by simp [putAll] at hp
  | _ :: _, [], _, _, _, _, hp => by simp [putAll] at hp
theorem putAll_kept (ns : List Nat) (cs : List (Option Blk)) : ∀ {ws : List Nat} {ks : List Blk} {M : Mem}, lookAll M ws = some ks → ∃ N, (∀ b, look b N = look b M) ∧ putAll (ws ++ ns) (ks.map some ++ cs) M = putAll ns cs N
  | [], ks, M, h => by
    simp only [lookAll, Option.some.injEq] at h
    subst h
    exact ⟨M, fun _ => rfl, rfl⟩
  | b :: ws, ks, M, h => by
    rw [lookAll] at h
    split at h
    · cases h
    rename_i k hk
    split at h
    · cases h
    rename_i ks' hks
    simp only [Option.some.injEq] at h
    subst h
    have same : ∀ d, look d (put1 b k M) = look d M := fun d => by
      rw [look_put1]
      split
      · rename_i e; rw [e, hk]
      · rfl
    obtain ⟨N, h1, h2⟩ := putAll_kept ns cs (ws := ws) (ks := ks') (M := put1 b k M) (by rw [lookAll_same same, hks])
    exact ⟨N, fun d => (h1 d).trans (same d), h2⟩
def callS (ps : List Pass) (ms fs : List Nat) (nb : Nat) (spec : List AV → List Blk → Option (Prop × Ret)) (args : List AV) (nm : Nat) : Option Deed :=
  match callD ps ms fs nb spec args nm with
  | none => none
  | some A => some { rd := A.rd, wr := (List.range nb).map (nm + ·), go := fun ks => match A.go ks with
    | some (C, v, bs) => some (C ∧ bs.take fs.length = (ks.drop ms.length).map some, v, bs.drop fs.length)
    | none => none }
theorem sound_seen {P : Program} {G : Globs} {f : FuncId} {ps : List Pass} {ms fs : List Nat} {nb : Nat} {spec : List AV → List Blk → Option (Prop × Ret)} (h : SoundAt P G f (callD ps ms fs nb spec)) : SoundAt P G f (callS ps ms fs nb spec) := by
  intro E σ M w args Vs nm A C v M' hP hG hM hargs hn hA hrun hC
  unfold callS at hA
  split at hA
  · cases hA
  rename_i A0 hA0
  simp only [Option.some.injEq] at hA
  subst hA
  unfold Deed.run at hrun
  simp only at hrun
  split at hrun
  · cases hrun
  rename_i ks hks
  split at hrun
  · cases hrun
  rename_i C1 v1 cs hgo
  split at hrun
  · cases hrun
  rename_i M1 hput
  simp only [Option.some.injEq, Prod.mk.injEq] at hrun
  obtain ⟨rfl, rfl, rfl⟩ := hrun
  split at hgo
  rotate_left
  · cases hgo
  rename_i C0 v0 bs hgo0
  simp only [Option.some.injEq, Prod.mk.injEq] at hgo
  obtain ⟨rfl, rfl, rfl⟩ := hgo
  have hw : A0.rd = ms ++ fs ∧ A0.wr = fs ++ (List.range nb).map (nm + ·) := by
    unfold callD at hA0
    cases hck : renOk (downN fs) big && renOk (upN fs nm nb) big && ms.all (fun b => !fs.any (Nat.beq b))
    · simp [hck] at hA0
    simp only [hck, cond_true, Option.some.injEq] at hA0
    subst hA0
    exact ⟨rfl, rfl⟩
  have hks' := hks
  rw [hw.1] at hks'
  obtain ⟨_, hfs⟩ := lookAll_append hks'
  have hb : bs = (ks.drop ms.length).map some ++ bs.drop fs.length := by rw [← hC.2, List.take_append_drop]
  obtain ⟨N, hN, e⟩ := putAll_kept ((List.range nb).map (nm + ·)) (bs.drop fs.length) hfs
  obtain ⟨N', hN', hl⟩ := putAll_same _ _ hN hput
  have run : A0.run M = some (C0, v0, N') := by
    unfold Deed.run
    rw [hks]
    simp only
    rw [hgo0]
    simp only
    rw [hw.2, hb, e, hN']
  refine (h E σ M w args Vs nm A0 C0 v0 N' hP hG hM hargs hn hA0 run hC.1).mono ?_
  rintro V w' ⟨E', σ', q1, q2, q3, q4, q5⟩
  exact ⟨E', σ', q1, q2, q3, q4, q5.less fun b k hb => by rw [hl b]; exact hb⟩
structure Site where
  f : FuncId
  nm : Nat
  ps : List Pass
  ms : List Nat
  fs : List Nat
  z : Sig1
  see : Bool
abbrev Lib := List Site
def tabOf : Lib → Tab
  | [], _, _, _ => none
  | x :: r, f, args, nm => bif Nat.beq x.f f && Nat.beq x.nm nm then (bif Nat.beq x.fs.length x.z.m then (bif x.see then callS x.ps x.ms x.fs x.z.nb x.z.spec args nm else callD x.ps x.ms x.fs x.z.nb x.z.spec args nm) else none) else tabOf r f args nm
def allKnown (P : Program) (G : Globs) : Lib → Prop
  | [] => True
  | x :: r => Known P G x.f x.z ∧ allKnown P G r
theorem tabOk {P : Program} {G : Globs} : ∀ {l : Lib}, allKnown P G l → TabOk P G (tabOf l)
  | [], _, f, args, nm, A, hA => by simp [tabOf] at hA
  | x :: r, h, f, args, nm, A, hA => by
    unfold tabOf at hA
    cases hb : Nat.beq x.f f && Nat.beq x.nm nm
    · rw [hb] at hA
      exact tabOk h.2 f args nm A hA
    · rw [hb, cond_true] at hA
      cases hm : Nat.beq x.fs.length x.z.m
      · rw [hm] at hA; cases hA
      · rw [hm, cond_true] at hA
        rw [Bool.and_eq_true] at hb
        have e1 := Nat.eq_of_beq_eq_true hb.1
        have e2 := Nat.eq_of_beq_eq_true hm
        subst e1
        have h0 : SoundAt P G x.f (callD x.ps x.ms x.fs x.z.nb x.z.spec) := sound_of_pure h.1.nb (e2 ▸ h.1.pure)
        cases hs : x.see
        · rw [hs, cond_false] at hA
          exact ⟨_, h0, hA⟩
        · rw [hs, cond_true] at hA
          exact ⟨_, sound_seen h0, hA⟩
variable {B : Bs} {E : Env} {U : Nat} {s : St} {Q : Post}
theorem Tri.seq_region {id : Nat} {ops : Array Oper} {draw : Bool} {d : Code} (hints : List (Nat × AV)) (ms : Option (List Nat)) (kf km : List Nat) (C : Prop) (s' : St) (U' : Nat) (h : runK B hints U ops ms kf km s = some (C, s')) (hd : ms.isSome = draw)
    (hU : Nat.ble (U + 16 * ops.size) U' = true) (hC : C) (hq : Tri B E d U' s' Q) : Tri B E (.seq (.region id ops draw) d) U s Q :=
  Tri.seq (Tri.region (Q := thenP B E d Q) h hd hU hC hq)
theorem Tri.region' {id : Nat} {ops : Array Oper} {draw : Bool} (hints : List (Nat × AV)) (ms : Option (List Nat)) (kf km : List Nat) (C : Prop) (s' : St) (U' : Nat) (h : runK B hints U ops ms kf km s = some (C, s')) (hd : ms.isSome = draw)
    (hU : Nat.ble (U + 16 * ops.size) U' = true) (hC : C) (hq : Q .normal U' s') : Tri B E (.region id ops draw) U s Q :=
  Tri.region h hd hU hC hq
theorem sr {id : Nat} {ops : Array Oper} {draw : Bool} {d : Code} (hints : List (Nat × AV)) (ms : Option (List Nat)) (kf km : List Nat) (C : Prop) (s' : St) (U' : Nat) (hC : C) (hq : Tri B E d U' s' Q)
    (h : runK B hints U ops ms kf km s = some (C, s') := by kernel_rfl) (hd : ms.isSome = draw := by rfl) (hU : Nat.ble (U + 16 * ops.size) U' = true := by kernel_rfl) : Tri B E (.seq (.region id ops draw) d) U s Q :=
  Tri.seq_region hints ms kf km C s' U' h hd hU hC hq
theorem rr {id : Nat} {ops : Array Oper} {draw : Bool} (hints : List (Nat × AV)) (ms : Option (List Nat)) (kf km : List Nat) (C : Prop) (s' : St) (U' : Nat) (hC : C) (hq : Q .normal U' s')
    (h : runK B hints U ops ms kf km s = some (C, s') := by kernel_rfl) (hd : ms.isSome = draw := by rfl) (hU : Nat.ble (U + 16 * ops.size) U' = true := by kernel_rfl) : Tri B E (.region id ops draw) U s Q :=
  Tri.region' hints ms kf km C s' U' h hd hU hC hq
abbrev qp (b o : Nat) : AV := .sc (.p b o)
abbrev qb (x : Bool) : AV := .sc (.b x)
abbrev qi (x : Int) : AV := .sc (.i .i64 x)
abbrev qr (xs : List Int) : AV := .sc (.ro .u8 xs)
def countP (U0 n k : Nat) (st' : St) (J' : Prop) (Q : Post) : Post
  | .normal, U, s => k < n ∧ J' ∧ Sub U s U0 st'
  | e, U, s => Q e U s
theorem Tri.count {α : Type} {c : Code} (U0 : Nat) (n : Nat) (f : Nat → α → α) (x0 : α) (J : Nat → α → Prop) (st : Nat → α → St) (hJ : J 0 x0) (h0 : Sub U s U0 (st 0 x0))
    (round : ∀ k x, k ≤ n → x = itr f k x0 → J k x → Tri B E c U0 (st k x) (countP U0 n k (st (k + 1) (f k x)) (J (k + 1) (f k x)) Q)) : Tri B E (.loop c) U s Q := by
  refine Tri.loop (U0 := U0) (fun k => n - k) (fun k => k ≤ n ∧ J k (itr f k x0)) (fun k => st k (itr f k x0)) 0 ⟨Nat.zero_le _, by show J 0 (itr f 0 x0); rw [itr_zero]; exact hJ⟩ (by show Sub U s U0 (st 0 (itr f 0 x0)); rw [itr_zero]; exact h0) ?_
  rintro k ⟨h1, h2⟩
  refine (round k _ h1 rfl h2).mono ?_
  intro e U' s' hq
  cases e with
  | normal =>
    obtain ⟨q1, q2, q3⟩ := hq
    exact ⟨k + 1, (by show n - (k + 1) < n - k; omega), ⟨by omega, by show J (k + 1) (itr f (k + 1) x0); rw [itr_succ]; exact q2⟩, by show Sub _ _ U0 (st (k + 1) (itr f (k + 1) x0)); rw [itr_succ]; exact q3⟩
  | exit id => exact hq
  | goto l => exact hq
  | ret => exact hq
  | panic ch => exact hq
  | outgrown => exact hq
def fstB (S : Nat → Bool) : Nat → Nat
  | 0 => 0
  | n + 1 => bif Nat.blt (fstB S n) n then fstB S n else bif S n then n else n + 1
theorem blt_true {k n : Nat} (h : k < n) : Nat.blt k n = true := by rw [Nat.blt_eq]; exact h
theorem blt_self (n : Nat) : Nat.blt n n = false := by
  cases h : Nat.blt n n
  · rfl
  · rw [Nat.blt_eq] at h
    exact absurd h (Nat.lt_irrefl n)
theorem fst_none {S : Nat → Bool} : ∀ {n : Nat}, (∀ j, j < n → S j = false) → fstB S n = n
  | 0, _ => rfl
  | n + 1, h => by
    rw [fstB, fst_none (fun j hj => h j (by omega)), blt_self, h n (by omega)]
    rfl
theorem fst_found {S : Nat → Bool} {k : Nat} : ∀ {n : Nat}, k < n → (∀ j, j < k → S j = false) → S k = true → fstB S n = k
  | 0, h, _, _ => absurd h (by omega)
  | n + 1, h, hl, hk => by
    by_cases hn : k < n
    · rw [fstB, fst_found hn hl hk, blt_true hn]; rfl
    · have e : k = n := by omega
      subst e
      rw [fstB, fst_none hl, blt_self, hk]; rfl
theorem fst_le (S : Nat → Bool) : ∀ n, fstB S n ≤ n
  | 0 => Nat.le_refl _
  | n + 1 => by
    rw [fstB]
    cases h : Nat.blt (fstB S n) n
    · cases S n <;> simp
    · have := fst_le S n; simp only [cond_true]; omega
theorem below_succ {S : Nat → Bool} {k : Nat} (h : ∀ j, j < k → S j = false) (hk : S k = false) : ∀ j, j < k + 1 → S j = false := by
  intro j hj
  by_cases e : j = k
  · subst e; exact hk
  · exact h j (by omega)
theorem blkP_normal {id : Nat} (h : Q .normal U s) : blkP id Q .normal U s := h
theorem Sub.openNil {fr : Fr} {M : Mem} {U U' : Nat} (t b es : Nat) (k : IntKind) (cap : Option Nat) (hcap : cap = none ∨ cap = some 0) (hb : U ≤ b) (hb' : b < U') (ht : look t fr = some (.sc .nils)) (hM : look b M = none) :
    Sub U (fr, M) U' (put1 t (.sc (.sl b 0 0 es cap)) fr, put1 b (.ints k 0 []) M) := by
  apply Sub.of1
  rintro E κ n a w ⟨σ, h1, h2, h3, h4⟩
  refine ⟨fun m => if m = b then .nil else σ m, ?_, fun m hm => ?_, fun j hj => ?_, by omega⟩
  · have hx : Ext σ (fun m => if m = b then .nil else σ m) := by
      intro m hm
      have : m ≠ b := fun e => hm (by rw [e]; exact h2 b hb)
      simp only [if_neg this]
    refine { val := fun t' v hv => ?_, defers := h1.defers, tmps := h1.tmps, blk := fun c k' hc => ?_, inj := fun c d x y L L' hc hd hL hL' hg => ?_, old := h1.old, size := h1.size, olds := h1.olds, os := h1.os, tape := h1.tape, output := h1.output }
    · simp only [look_put1] at hv
      split at hv
      · rename_i e
        subst e
        injection hv with hv
        subst hv
        obtain ⟨V, q1, q2⟩ := h1.val _ _ ht
        exact ⟨V, q1, .inl ⟨rfl, hcap, none, q2⟩⟩
      · obtain ⟨V, q1, q2⟩ := h1.val _ _ hv
        exact ⟨V, q1, q2.ext hx⟩
    · simp only [look_put1] at hc
      split at hc
      · rename_i e
        subst e
        injection hc with hc
        subst hc
        simp only [if_true]
        exact ⟨rfl, rfl⟩
      · rename_i e
        simp only [if_neg e]
        have := h1.blk c k' hc
        revert this
        cases σ c with
        | unset => intro h; exact h
        | nil => intro h; exact h
        | «at» L =>
          rintro ⟨g1, arr, elem, lo, hi, p1, p2, p3, p4, p5, p6⟩
          exact ⟨g1, arr, elem, lo, hi, p1, p2, p3, p4, p5, fun j s hs => let ⟨v, q1, q2⟩ := p6 j s hs; ⟨v, q1, q2.ext hx⟩⟩
    · simp only [look_put1] at hc hd
      split at hc
      · rename_i e
        simp only [if_pos e] at hL
        cases hL
      · rename_i e
        simp only [if_neg e] at hL
        split at hd
        · rename_i e'
          simp only [if_pos e'] at hL'
          cases hL'
        · rename_i e'
          simp only [if_neg e'] at hL'
          exact h1.inj c d x y L L' hc hd hL hL' hg
  · have : m ≠ b := by omega
    simp only [if_neg this]
    exact h2 m (by omega)
  · have : j ≠ b := by omega
    simp only [if_neg this]
    exact h3 j hj
theorem Sub.freeze {fr : Fr} {M : Mem} {U : Nat} (t b off len n : Nat) (cap : Option Nat) (k : IntKind) (xs : List Int) (ht : look t fr = some (.sc (.sl b off len 1 cap))) (hM : look b M = some (.ints k n xs)) (hle : off + len ≤ n) :
    Sub U (fr, M) U (put1 t (.sc (.ro k (part1 xs n off len))) fr, drop1 b M) := by
  rintro E n' a w ⟨E1, hg, σ, h1, h2, h3, h4⟩
  have hB := h1.blk b _ hM
  have hgood : xs.length = n := blk_good h1.toMemR hM
  have hlen : ((xs.drop off).take len).length = len := by simp; omega
  have less : ∀ c k', look c (drop1 b M) = some k' → c ≠ b ∧ look c M = some k' := by
    intro c k' hc
    rw [look_drop1] at hc
    split at hc
    · cases hc
    · rename_i e; exact ⟨e, hc⟩
  cases hL : σ b with
  | unset => rw [hL] at hB; exact hB.elim
  | nil =>
    rw [hL] at hB
    have hn : n = 0 := hB.1
    refine ⟨E1, hg, σ, ?_, h2, h3, h4⟩
    refine { val := fun t' v hv => ?_, defers := h1.defers, tmps := h1.tmps, toMemR := MemR.less h1.toMemR fun c k' hc => (less c k' hc).2 }
    simp only [look_put1] at hv
    split at hv
    · rename_i e
      subst e
      injection hv with hv
      subst hv
      obtain ⟨V, q1, q2⟩ := h1.val _ _ ht
      refine ⟨V, q1, ?_⟩
      show RoR E1 k (part1 xs n off len) V
      rw [part1_eq hgood]
      rcases q2 with ⟨e1, _, A, rfl⟩ | ⟨L, c, e1, _⟩
      · subst e1
        exact ⟨A, 0, by simp, by simp, by simp⟩
      · rw [hL] at e1; cases e1
    · exact h1.val _ _ hv
  | «at» L =>
    rw [hL] at hB
    obtain ⟨g1, arr, elem, lo, hi, p1, p2, p3, p4, p5, p6⟩ := hB
    have hinj : ∀ c k' L', c ≠ b → look c M = some k' → σ c = .at L' → L'.g ≠ L.g := fun c k' L' hne hc hL' he => hne (h1.inj c b k' _ L' L hc hM hL' hL he)
    let E2 : Env := { P := E1.P, w0 := w, old := fun g => E1.old g ∨ g = L.g, fz := fun g => E1.fz g ∨ g = L.g, sub := fun g h => h.elim (fun h => .inl (E1.sub g h)) .inr, kp := E1.kp }
    have gr : Grow E1 E2 :=
      { P := rfl, old := fun g h => .inl h, fz := fun g h => .inl h, w0 := fun g h => h1.old g h
        new := fun g h => by
          rcases h with h | h
          · exact .inl h
          · subst h; exact .inr p4
        size := h1.size, os := h1.os, tape := h1.tape, output := h1.output }
    refine ⟨E2, hg.trans gr, σ, ?_, h2, h3, h4⟩
    refine { val := fun t' v hv => ?_, defers := h1.defers, tmps := h1.tmps, blk := fun c k' hc => ?_, inj := fun c d x y L1 L2 hc hd => h1.inj c d x y L1 L2 (less c x hc).2 (less d y hd).2, old := fun _ _ => rfl, size := Nat.le_refl _, olds := fun g hg => ?_, os := rfl, tape := rfl, output := rfl }
    · simp only [look_put1] at hv
      split at hv
      · rename_i e
        subst e
        injection hv with hv
        subst hv
        obtain ⟨V, q1, q2⟩ := h1.val _ _ ht
        refine ⟨V, q1, ?_⟩
        show RoR E2 k (part1 xs n off len) V
        rw [part1_eq hgood]
        rcases q2 with ⟨e1, _, A, rfl⟩ | ⟨L', c, e1, rfl, e2, e3, e4⟩
        · subst e1
          exact ⟨A, 0, by simp, by simp, by simp⟩
        · rw [hL] at e1
          injection e1 with e1
          subst e1
          refine ⟨some ⟨L.g, L.β + off, none⟩, c, by rw [hlen], by rw [hlen]; exact e2, fun _ => ⟨_, rfl, .inr rfl, fun j hj => ?_⟩⟩
          rw [hlen] at hj
          have hget : xs[off + j]? = some (xs.getD (off + j) 0) := by
            rw [List.getD_eq_getElem?_getD, List.getElem?_eq_getElem (by omega)]; rfl
          obtain ⟨v, e5, e6⟩ := p6 (off + j) (.i k (xs.getD (off + j) 0)) (by show (xs[off + j]?).map _ = _; rw [hget]; rfl)
          simp only [ScR] at e6
          subst e6
          have : ((xs.drop off).take len).getD j 0 = xs.getD (off + j) 0 := by
            simp [List.getD_eq_getElem?_getD, List.getElem?_take, List.getElem?_drop, hj]
          rw [this, addr_add]
          show w.cell? _ = _
          have hlt : L.β + off + j < L.sz := by have := p3; simp only [Blk.len] at this; omega
          have := p5.1 (L.β + off + j) hlt
          simp [World.cell?, p1, this]
          rw [Nat.add_assoc]
          exact e5
      · obtain ⟨V, q1, q2⟩ := h1.val _ _ hv
        exact ⟨V, q1, q2.grow gr⟩
    · obtain ⟨hne, hc'⟩ := less c k' hc
      refine Blk.grow gr (fun l hl hz => ?_) (h1.blk c k' hc')
      rcases hz with hz | hz
      · have hB' := h1.blk c k' hc'
        rw [hl] at hB'
        obtain ⟨_, _, _, _, _, _, _, _, q4, _⟩ := hB'
        exact q4 hz
      · exact hinj c k' l hne hc' hl hz
    · rcases hg with hg | hg
      · exact Nat.lt_of_lt_of_le (h1.olds g hg) h1.size
      · subst hg; exact heap_lt p1
theorem countP_normal {U0 n k : Nat} {st' : St} {J' : Prop} (h1 : k < n) (h2 : J') (h3 : Sub U s U0 st') : countP U0 n k st' J' Q .normal U s := ⟨h1, h2, h3⟩
theorem Tri.split {c : Code} (x : Bool) (ht : x = true → Tri B E c U s Q) (hf : x = false → Tri B E c U s Q) : Tri B E c U s Q := by
  cases x
  · exact hf rfl
  · exact ht rfl
theorem endP.ret {P : Program} {rs : List ResultVar} {m : Nat} {r : Ret} (ns : Ren) (C : Prop) (h1 : (renOk ns r.bs.length && ren16 ns m) = true) (h3 : finish P rs ns r.bs.length s = some (C, r)) (h4 : C) : endP P rs m r .ret U s := ⟨ns, C, h1, h3, h4⟩
theorem endP.conv {P : Program} {rs : List ResultVar} {m : Nat} {r r' : Ret} (h : r = r') (h2 : endP P rs m r' .ret U s) : endP P rs m r .ret U s := h ▸ h2
theorem Known.walk {f : FuncId} {fn : Func} {c : Code} {z : Sig1} (hok : B.Ok) (hf : B.P.funcs[f]? = some fn) (hb : fn.body = some c) (hn : (fn.name != "runtime.NumGoroutine") = true) (hnt : fn.ntmps = B.n) (hnb : z.nb ≤ 16) (hm : z.m ≤ 16)
    (h : ∀ (E : Env) (args : List AV) (ks : List Blk) (C : Prop) (r : Ret), z.spec args ks = some (C, r) → C → lens args → args.length ≤ B.n ∧ Tri B E c 16 ((List.range args.length).zip args, zipN 0 ks) (endP B.P fn.results.toList z.m r)) : Known B.P B.G f z :=
  ⟨hnb, PureAt.of_walk hok hf hb hn hnt hm h⟩
theorem Known.same {P : Program} {G : Globs} {f : FuncId} {z z' : Sig1} (h : Known P G f z) (hnb : z'.nb ≤ 16) (hm : z'.m = z.m) (hs : ∀ vs ks C r, z'.spec vs ks = some (C, r) → C → ∃ C', z.spec vs ks = some (C', r) ∧ C') : Known P G f z' :=
  ⟨hnb, fun E w args ks Vs C r h1 h2 h3 h4 h5 h6 h7 h8 => by
    obtain ⟨C', h9, h10⟩ := hs args ks C r h7 h8
    have := h.pure E w args ks Vs C' r h1 h2 (h3.trans hm) (fun j hj => h4 j (by omega)) h5 h6 h9 h10
    rw [hm]
    exact this⟩
def orS (s1 s2 : List AV → List Blk → Option (Prop × Ret)) : List AV → List Blk → Option (Prop × Ret) := fun a b => match s1 a b with
  | some x => some x
  | none => s2 a b
theorem Known.or {P : Program} {G : Globs} {f : FuncId} {m nb : Nat} {s1 s2 : List AV → List Blk → Option (Prop × Ret)} (h1 : Known P G f ⟨m, nb, s1⟩) (h2 : Known P G f ⟨m, nb, s2⟩) : Known P G f ⟨m, nb, orS s1 s2⟩ where
  nb := h1.nb
  pure := fun E w args ks Vs C r hP hG hk hkp hM ha h hC => by
    simp only [orS] at h
    split at h
    · rename_i x hx; cases h; exact h1.pure E w args ks Vs C r hP hG hk hkp hM ha hx hC
    · exact h2.pure E w args ks Vs C r hP hG hk hkp hM ha h hC
theorem eq_true_i {a b : Int} (h : (a == b) = true) : a = b := by simpa using h
theorem eq_false_i {a b : Int} (h : (a == b) = false) : a ≠ b := by simpa using h
theorem ne_true_i {a b : Int} (h : (a != b) = true) : a ≠ b := by simpa using h
theorem ne_false_i {a b : Int} (h : (a != b) = false) : a = b := by simpa using h
theorem wrap_small {x : Int} (h : -9223372036854775808 ≤ x) (h' : x < 9223372036854775808) : IntKind.wrap .i64 x = x := by
  unfold IntKind.wrap
  simp only [IntKind.signed, IntKind.bits, if_true, Bool.true_and]
  split <;> rename_i hc <;> simp at hc ⊢ <;> omega
theorem iAdd_nat {a b : Nat} (h : a + b < 9223372036854775808) : iAdd .i64 (a : Int) (b : Int) = ((a + b : Nat) : Int) := by
  unfold iAdd; rw [wrap_small (by omega) (by omega)]; omega
theorem iMul_nat {a b : Nat} (h : a * b < 9223372036854775808) : iMul .i64 (a : Int) (b : Int) = ((a * b : Nat) : Int) := by
  unfold iMul
  have : (a : Int) * (b : Int) = ((a * b : Nat) : Int) := by simp
  rw [this, wrap_small (by omega) (by omega)]
theorem iSub_nat {a b : Nat} (h : b ≤ a) (h' : a < 9223372036854775808) : iSub .i64 (a : Int) (b : Int) = ((a - b : Nat) : Int) := by
  unfold iSub; rw [wrap_small (by omega) (by omega)]; omega
theorem iQuo_nat {a b : Nat} (h : a < 9223372036854775808) : iQuo .i64 (a : Int) (b : Int) = ((a / b : Nat) : Int) := by
  unfold iQuo
  have : Int.tdiv (a : Int) (b : Int) = ((a / b : Nat) : Int) := by rfl
  have h2 : a / b ≤ a := Nat.div_le_self a b
  generalize a / b = d at this h2
  rw [this, wrap_small (by omega) (by omega)]
theorem iRem_nat {a b : Nat} : iRem (a : Int) (b : Int) = ((a % b : Nat) : Int) := rfl
theorem Tri.len {B : Bs} {E : Env} {c : Code} {U : Nat} {s : St} {Q : Post} (b : Nat) {k : IntKind} {n : Nat} {xs : List Int} (h : look b s.2 = some (.ints k n xs)) (q : xs.length = n → Tri B E c U s Q) : Tri B E c U s Q := by
  intro hB a w g
  have g0 := g
  obtain ⟨E', hg', σ, h1, h2⟩ := g
  have hb := h1.toMemR.blk b _ h
  have hg : xs.length = n := by
    cases hs : σ b with
    | unset => rw [hs] at hb; cases hb
    | nil => rw [hs] at hb; exact hb.2
    | «at» L => rw [hs] at hb; exact hb.1
  exact q hg hB a w g0
theorem part1_le {xs : List Int} {n off len B : Nat} (h1 : len ≤ B) (h2 : xs.length ≤ B) : (part1 xs n off len).length ≤ B := by
  unfold part1
  cases Nat.beq len n && Nat.beq off 0
  · simp only [cond_false, List.length_take, List.length_drop]; omega
  · exact h2
theorem minI_nat (a b : Nat) : minI (a : Int) (b : Int) = ((min a b : Nat) : Int) := by unfold minI; split <;> omega
theorem iSub_dn0 {a : Nat} (h : a < 9223372036854775808) : iSub .i64 (a : Int) 1 = (a : Int) - 1 - ((0 : Nat) : Int) := by
  unfold iSub; rw [wrap_small (by omega) (by omega)]; omega
theorem iSub_dn {a k : Nat} (h : a < 9223372036854775808) (h' : k < 9223372036854775807) : iSub .i64 ((a : Int) - 1 - (k : Int)) 1 = (a : Int) - 1 - ((k + 1 : Nat) : Int) := by
  unfold iSub; rw [wrap_small (by omega) (by omega)]; omega
theorem dn_nat {a k : Nat} (h : k + 1 ≤ a) : (a : Int) - 1 - (k : Int) = ((a - 1 - k : Nat) : Int) := by omega
end Go.Vm
set_option linter.unusedVariables false
set_option linter.unusedSimpArgs false
namespace Go.Vm
open Go
theorem wrap_u64 (x : Int) : IntKind.wrap .u64 x = x % 18446744073709551616 := by
  simp [IntKind.wrap, IntKind.signed, IntKind.bits]
theorem wrap_u32 (x : Int) : IntKind.wrap .u32 x = x % 4294967296 := by
  simp [IntKind.wrap, IntKind.signed, IntKind.bits]
theorem wrap_u8 (x : Int) : IntKind.wrap .u8 x = x % 256 := by
  simp [IntKind.wrap, IntKind.signed, IntKind.bits]
theorem wrap64_nn (x : Int) : 0 ≤ IntKind.wrap .u64 x := by rw [wrap_u64]; omega
theorem iAnd_nn (x y : Int) : 0 ≤ iAnd .u64 x y := wrap64_nn _
theorem iSub_nn (x y : Int) : 0 ≤ iSub .u64 x y := wrap64_nn _
theorem iAdd_u64 (x y : Int) : iAdd .u64 x y = (x + y) % 18446744073709551616 := wrap_u64 _
theorem iSub_u64 (x y : Int) : iSub .u64 x y = (x - y) % 18446744073709551616 := wrap_u64 _
theorem iAdd_i64 {x y : Int} (h : -9223372036854775808 ≤ x + y) (h' : x + y < 9223372036854775808) : iAdd .i64 x y = x + y := wrap_small h h'
theorem iSub_i64 {x y : Int} (h : -9223372036854775808 ≤ x - y) (h' : x - y < 9223372036854775808) : iSub .i64 x y = x - y := wrap_small h h'
theorem iMul_i64 {x y : Int} (h : -9223372036854775808 ≤ x * y) (h' : x * y < 9223372036854775808) : iMul .i64 x y = x * y := wrap_small h h'
theorem iShr_at (k : IntKind) (x : Int) (n : Nat) (h : n ≤ k.bits) : iShr k x (n : Int) = x / 2 ^ n := by
  unfold iShr
  have : min ((n : Int)).toNat k.bits = n := by simp; omega
  rw [this]
  exact Int.fdiv_eq_ediv_of_nonneg _ (by exact Int.le_of_lt (Int.pow_pos (by omega)))
theorem iShl_at (k : IntKind) (x : Int) (n : Nat) (h : n ≤ k.bits) : iShl k x (n : Int) = k.wrap (x * 2 ^ n) := by
  unfold iShl
  have : min ((n : Int)).toNat k.bits = n := by simp; omega
  rw [this]
theorem iAnd_mask (x : Int) (n : Nat) (h : n ≤ 64) : iAnd .u64 x (2 ^ n - 1 : Nat) = x % 2 ^ n := by
  unfold iAnd
  rw [wrap_u64]
  show (((BitVec.ofInt 64 x &&& BitVec.ofInt 64 ((2 ^ n - 1 : Nat) : Int)).toNat : Nat) : Int) % 18446744073709551616 = x % 2 ^ n
  rw [BitVec.toNat_and]
  have h2 : (BitVec.ofInt 64 ((2 ^ n - 1 : Nat) : Int)).toNat = 2 ^ n - 1 := by
    rw [BitVec.ofInt_natCast, BitVec.toNat_ofNat]
    exact Nat.mod_eq_of_lt (by have := Nat.pow_le_pow_right (n := 2) (by omega) h; have : 0 < 2 ^ n := Nat.pow_pos (by omega); omega)
  rw [h2, Nat.and_two_pow_sub_one_eq_mod]
  have h3 : ((BitVec.ofInt 64 x).toNat : Int) = x % 18446744073709551616 := by
    rw [BitVec.toNat_ofInt]
    have : 0 ≤ x % ((2 ^ 64 : Nat) : Int) := Int.emod_nonneg _ (by simp)
    rw [Int.toNat_of_nonneg this]
    rfl
  have h4 : (((BitVec.ofInt 64 x).toNat % 2 ^ n : Nat) : Int) = x % 2 ^ n := by
    rw [Int.natCast_emod, h3]
    have h5 : ((2 ^ n : Nat) : Int) = (2 : Int) ^ n := by simp
    rw [h5]
    apply Int.emod_emod_of_dvd
    have : (18446744073709551616 : Int) = 2 ^ 64 := by rfl
    rw [this]
    exact pow_dvd h
  rw [h4]
  apply Int.emod_eq_of_lt
  · exact Int.emod_nonneg _ (by have : (0 : Int) < 2 ^ n := Int.pow_pos (by omega); omega)
  · have h6 : (0 : Int) < 2 ^ n := Int.pow_pos (by omega)
    have h7 := Int.emod_lt_of_pos x h6
    have h8 : (2 : Int) ^ n ≤ 2 ^ 64 := by
      have := Nat.pow_le_pow_right (n := 2) (by omega) h
      have h9 : (((2 ^ n : Nat)) : Int) ≤ ((2 ^ 64 : Nat) : Int) := by exact_mod_cast this
      simpa using h9
    have : (18446744073709551616 : Int) = 2 ^ 64 := by rfl
    omega
where
  pow_dvd {n m : Nat} (h : n ≤ m) : (2 : Int) ^ n ∣ 2 ^ m := ⟨2 ^ (m - n), by rw [← Int.pow_add]; congr 1; omega⟩
theorem getD_set_ne {xs : List Int} {i j : Nat} {v d : Int} (h : i ≠ j) : (xs.set i v).getD j d = xs.getD j d := by
  simp [List.getD_eq_getElem?_getD, List.getElem?_set, h]
theorem getD_set_eq {xs : List Int} {i : Nat} {v d : Int} (h : i < xs.length) : (xs.set i v).getD i d = v := by
  simp [List.getD_eq_getElem?_getD, List.getElem?_set, h]
end Go.Vm
set_option linter.unusedVariables false
set_option linter.unusedSimpArgs false
namespace Go.Vm
open Go
def E0 (P : Program) (w : World) : Env := { P := P, w0 := w, old := fun g => g < w.heap.size, fz := fun g => g < w.heap.size, sub := fun _ h => h, kp := fun _ => .unset }
theorem cell_lt {w : World} {a : Addr} {v : Value} (h : w.cell? a = some v) : a.block < w.heap.size := by
  unfold World.cell? at h
  cases hb : w.heap[a.block]? with
  | none => simp [hb] at h
  | some o => exact (Array.getElem?_eq_some_iff.1 hb).1
end Go.Vm
set_option linter.unusedVariables false
set_option linter.unusedSimpArgs false
namespace Go.Vm
open Go
section
variable {H : Type} {enc : TypeId × Value → H} {P : Program} {w : World} {base : Nat} {spare : Nat → Bool} {held : Bool}
end
def RowI (k : IntKind) (w : World) (a : Option Addr) (len cap : Nat) (zs : List Int) : Prop :=
  (a = none ∧ len = 0 ∧ cap = 0 ∧ zs = []) ∨
  ∃ x, a = some x ∧ len ≤ cap ∧ cap ≤ maxLen ∧ zs.length = cap ∧ (∀ i, i < zs.length → w.cell? (x.add i) = some (.int k (zs.getD i 0))) ∧ ∀ n ∈ zs, (Lit.int k n).wf = true
theorem RowI.fits {k : IntKind} {w : World} {a : Option Addr} {len cap : Nat} {zs : List Int} (h : RowI k w a len cap zs) (n : Nat) : ∀ x ∈ zs.take n, k.min ≤ x ∧ x ≤ k.max := by
  intro x hx
  have hm := List.mem_of_mem_take hx
  rcases h with ⟨_, _, _, rfl⟩ | ⟨_, _, _, _, _, _, hw⟩
  · cases hm
  · exact (Lit.wf_int_iff _ _).1 (hw x hm)
def RowB (w : World) (a : Option Addr) (len cap : Nat) (zs : List (List Int)) : Prop :=
  (a = none ∧ len = 0 ∧ cap = 0 ∧ zs = []) ∨
  ∃ x, a = some x ∧ len ≤ cap ∧ cap ≤ maxLen ∧ zs.length = len ∧ ∀ i, i < len → ∃ a' l' c' z', w.cell? (x.add i) = some (.slice a' l' c') ∧ RowI .u8 w a' l' c' z' ∧ zs.getD i [] = z'.take l'
theorem RowB.fits {w : World} {a : Option Addr} {len cap : Nat} {zs : List (List Int)} (h : RowB w a len cap zs) : ∀ y ∈ zs, ∀ x ∈ y, IntKind.min .u8 ≤ x ∧ x ≤ IntKind.max .u8 := by
  rcases h with ⟨_, _, _, rfl⟩ | ⟨_, _, h1, h2, h3, h4⟩
  · exact fun y hy => by cases hy
  · intro y hy
    obtain ⟨i, hi⟩ := List.getElem?_of_mem hy
    have hlt := (List.getElem?_eq_some_iff.1 hi).1
    obtain ⟨a', l', c', z', _, q2, q3⟩ := h4 i (by omega)
    rw [List.getD_eq_getElem?_getD, hi] at q3
    simp only [Option.getD_some] at q3
    subst q3
    exact q2.fits l'
section
variable {H : Type} {enc : TypeId × Value → H} {P : Program} {w : World} {base : Nat} {held : Bool}
theorem weights_all {e : TypeId} : ∀ {l : List (DataW H)} {d : DataW H}, d ∈ l → ∀ n ∈ d.weights P e, n ∈ DataW.weightsAll P e l
  | x :: l, d, h, n, hn => by
    simp only [DataW.weightsAll, List.mem_append]
    rcases List.mem_cons.1 h with rfl | h
    · exact .inl hn
    · exact .inr (weights_all h n hn)
theorem sized_strs {t e : TypeId} {ss : List ByteArray} {l : Nat} {d : DataW H} {p p' : List MemPlace} (ht : P.underlying t = some (.slice e)) (hb : 0 < P.bytesOf e) (hx : (d, p) = (.slice (Go.ChangeShapes.strs (ss.take l)) (Go.ChangeShapes.strs (ss.drop l)), p'))
    (hq : ∀ n ∈ d.weights P t, n ≤ reachBytes) : ss.length ≤ 140737488351232 ∧ ∀ y ∈ ss, y.size ≤ 140737488351232 := by
  obtain rfl := congrArg Prod.fst hx
  have h4 : reachBytes = 140737488351232 := by decide
  refine ⟨?_, fun y hy => ?_⟩
  · have h := hq ((Go.ChangeShapes.strs (H := H) (ss.take l)).length + (Go.ChangeShapes.strs (H := H) (ss.drop l)).length |> (· * P.bytesOf e)) (by simp [DataW.weights, ht])
    simp only [Go.ChangeShapes.strs, List.length_map, List.length_take, List.length_drop] at h
    have h2 : min l ss.length + (ss.length - l) = ss.length := by omega
    rw [h2] at h
    have h3 : ss.length * 1 ≤ ss.length * P.bytesOf e := Nat.mul_le_mul_left _ hb
    omega
  · have hm : y ∈ ss.take l ∨ y ∈ ss.drop l := by rw [← List.mem_append, List.take_append_drop]; exact hy
    have hw : y.size ∈ (DataW.lit (H := H) (.string y.data.toList)).weights P e := by
      simp only [DataW.weights, List.mem_singleton, Array.length_toList]
      rfl
    have hS : ∀ L : List ByteArray, y ∈ L → (DataW.lit (.string y.data.toList) : DataW H) ∈ Go.ChangeShapes.strs L := fun L h => List.mem_map.2 ⟨y, h, rfl⟩
    have h := hq y.size (by
      simp only [DataW.weights, ht, List.mem_cons, List.mem_append]
      refine .inr ?_
      rcases hm with hm | hm
      · exact .inl (weights_all (d := .lit (.string y.data.toList)) (hS _ hm) _ hw)
      · exact .inr (weights_all (d := .lit (.string y.data.toList)) (hS _ hm) _ hw))
    omega
end
def RowS (w : World) (a : Option Addr) (len cap : Nat) (zs : List ByteArray) : Prop :=
  (a = none ∧ len = 0 ∧ cap = 0 ∧ zs = []) ∨
  ∃ x, a = some x ∧ len ≤ cap ∧ cap ≤ maxLen ∧ zs.length = cap ∧ (∀ i, i < zs.length → w.cell? (x.add i) = some (.string (zs.getD i ByteArray.empty))) ∧ ∀ s ∈ zs, s.size ≤ maxLen
theorem RowS.fits {w : World} {a : Option Addr} {len cap : Nat} {zs : List ByteArray} (h : RowS w a len cap zs) (n : Nat) : (zs.take n).length ≤ maxLen ∧ ∀ y ∈ zs.take n, y.size ≤ maxLen := by
  rcases h with ⟨_, _, _, rfl⟩ | ⟨_, _, h1, h2, h3, h4, h5⟩
  · simp
  · refine ⟨by simp only [List.length_take]; omega, fun y hy => h5 y (List.mem_of_mem_take hy)⟩
theorem ros_row {P : Program} {σ : Sig} {w : World} {a : Option Addr} {len cap : Nat} {zs : List ByteArray} (h : RowS w a len cap zs) : AVR (E0 P w) σ (.sc (.ros (zs.take len))) (.slice a len cap) := by
  rcases h with ⟨rfl, rfl, rfl, rfl⟩ | ⟨x, rfl, h1, h2, h3, h4, _⟩
  · exact ⟨none, 0, rfl, by simp, by simp⟩
  · have hl : (zs.take len).length = len := by simp; omega
    refine ⟨some x, cap, by rw [hl], by rw [hl]; exact h1, fun hp => ⟨x, rfl, ?_, fun j hj => ?_⟩⟩
    · have := cell_lt (h4 0 (by omega))
      rw [add_block] at this
      exact this
    · rw [hl] at hj
      show w.cell? _ = _
      rw [h4 j (by omega)]
      simp [List.getD_eq_getElem?_getD, List.getElem?_take, hj, ByteArray.empty, ByteArray.emptyWithCapacity]
      rfl
end Go.Vm
set_option linter.unusedVariables false
set_option linter.unusedSimpArgs false
namespace Go.Vm
open Go
section
variable {H : Type} {enc : TypeId × Value → H} {P : Program} {w : World} {base : Nat} {spare : Nat → Bool} {held : Bool}
theorem trod_known {t e : TypeId} {k : IntKind} {n fuel : Nat} {cs : List Value} {zs : List Int} {p : List MemPlace} (ht : P.underlying t = some (.array n e)) (he : P.underlying e = some (.int k)) (hc : P.cellsOf e = 1) (hn : P.cellsOf t = n)
    (h : DataW.trod enc P w base spare held fuel t cs = some ((.agg (zs.map fun z => .lit (.int k z)) : DataW H), p)) : cs = intVals k zs := by
  obtain ⟨xs, m, _, hx, hl, hxl, hp⟩ := DataW.trod_array ht h
  have h1 : zs.map (fun z => (.lit (.int k z) : DataW H)) = xs.map (·.1) := by
    have := congrArg Prod.fst hx
    simpa using this
  have hz : zs.length = n := by
    have := congrArg List.length h1
    simp at this
    omega
  apply List.ext_getElem?
  intro i
  by_cases hi : i < n
  · have h2 := hp i hi
    rw [List.getElem?_eq_getElem (by omega), hc, Nat.mul_one] at h2
    obtain ⟨z, hz1, hz2, _⟩ := DataW.trod_int he h2
    have h3 := congrArg (fun l : List (DataW H) => l[i]?) h1
    simp only [List.getElem?_map] at h3
    rw [List.getElem?_eq_getElem (by omega), List.getElem?_eq_getElem (by omega)] at h3
    simp only [Option.map_some, Option.some.injEq] at h3
    rw [hz2] at h3
    simp only [DataW.lit.injEq, Lit.int.injEq, true_and] at h3
    have h4 := congrArg (fun l : List Value => l[0]?) hz1
    simp only [List.getElem?_take, List.getElem?_drop] at h4
    have h5 : cs[i]? = some (.int k z) := by simpa using h4
    rw [h5, intVals, List.getElem?_map, List.getElem?_eq_getElem (by omega), ← h3]
    rfl
  · rw [List.getElem?_eq_none (by omega), List.getElem?_eq_none (by rw [intVals, List.length_map]; omega)]
end
structure LaidI (P : Program) where
  name : String
  g : Nat
  t : TypeId
  e : TypeId
  k : IntKind
  zs : List Int
def LaidI.ok {P : Program} (x : LaidI P) : Prop := P.globalNamed x.name = some x.g ∧ (P.globals[x.g]?).map (·.type) = some x.t ∧ P.underlying x.t = some (.array x.zs.length x.e) ∧ P.underlying x.e = some (.int x.k) ∧ P.cellsOf x.e = 1 ∧ P.cellsOf x.t = x.zs.length
def LaidI.datum {P : Program} (x : LaidI P) : DataW Unit := .agg (x.zs.map fun z => .lit (.int x.k z))
theorem laid_cells {P : Program} {W : World} : ∀ {l : List (LaidI P)} {ps : List MemPlace}, (∀ x ∈ l, x.ok) → DataW.LaidVars P W (l.map fun x => (x.name, x.datum)) ps →
    ∀ x ∈ l, ∀ j, j < x.zs.length → W.cell? ⟨x.g, j, none⟩ = some (.int x.k (x.zs.getD j 0))
  | [], _, _, _, x, hx => by cases hx
  | y :: l, ps, hok, h, x, hx => by
    obtain ⟨g, t, cs, fuel, p, q, hg, ht, hv, hd, hr, _⟩ := h
    rcases List.mem_cons.1 hx with rfl | hx
    · intro j hj
      obtain ⟨o1, o2, o3, o4, o5, o6⟩ := hok x (by simp)
      obtain rfl := Option.some.inj (o1.symm.trans hg)
      obtain rfl := Option.some.inj (o2.symm.trans ht)
      have hc := trod_known o3 o4 o5 o6 hd
      have h1 := World.var?_cell hg hv j
      have h2 : cs[j]? = some (.int x.k (x.zs.getD j 0)) := by
        rw [← Array.getElem?_toList, hc, intVals, List.getElem?_map, List.getElem?_eq_getElem hj, List.getD_eq_getElem?_getD, List.getElem?_eq_getElem hj]
        rfl
      rw [h2] at h1
      simpa using h1
    · exact laid_cells (fun z hz => hok z (by simp [hz])) hr x hx
def globsOf {P : Program} : List (LaidI P) → Globs
  | [], _ => none
  | x :: l, g => bif Nat.beq g x.g then some (x.k, x.zs) else globsOf l g
theorem globs_ok {P : Program} {W : World} {l0 : List (LaidI P)} (h : ∀ x ∈ l0, ∀ j, j < x.zs.length → W.cell? ⟨x.g, j, none⟩ = some (.int x.k (x.zs.getD j 0))) (hne : ∀ x ∈ l0, 0 < x.zs.length) : GlobsOk (E0 P W) (globsOf l0) := by
  intro g k xs hg
  have key : ∀ l : List (LaidI P), (∀ x ∈ l, x ∈ l0) → globsOf l g = some (k, xs) → ∃ x ∈ l0, x.g = g ∧ x.k = k ∧ x.zs = xs := by
    intro l
    induction l with
    | nil => intro _ h; cases h
    | cons y l ih =>
      intro hl h
      unfold globsOf at h
      cases hb : Nat.beq g y.g
      · rw [hb] at h
        exact ih (fun x hx => hl x (by simp [hx])) h
      · rw [hb] at h
        simp only [cond_true, Option.some.injEq, Prod.mk.injEq] at h
        exact ⟨y, hl y (by simp), (Nat.eq_of_beq_eq_true hb).symm, h.1, h.2⟩
  obtain ⟨x, hx, rfl, rfl, rfl⟩ := key l0 (fun _ h => h) hg
  refine ⟨?_, fun j hj => ?_⟩
  · have := cell_lt (h x hx 0 (hne x hx))
    exact this
  · have := h x hx j hj
    show W.cell? ((⟨x.g, 0, none⟩ : Addr).add j) = _
    rw [← this]
    simp only [Addr.add]
    split
    · rename_i h0; simp [h0]
    · simp
theorem calls_trueG {P : Program} {G : Globs} {f : FuncId} {z : Sig1} (h : Known P G f z) (hf : entersB P f = true) (w : World) (hG : GlobsOk (E0 P w) G) (args : List AV) (Vs : Array Value) (C : Prop) (b : Bool) (ha : All2 (AVR (E0 P w) fun _ => .unset) args Vs.toList)
    (hm : z.m = 0) (hs : z.spec args [] = some (C, ⟨.sc (.b b), []⟩)) (hC : C) (hb : b = true) : Calls P f Vs w fun e w' => e = .returned (.bool true) ∧ Go.RowKit.Below w.heap.size w w' := by
  have hM : MemR (E0 P w) (fun _ => .unset) [] w :=
    { blk := fun b k hb => by cases hb
      inj := fun b c x y L L' hb => by cases hb
      old := fun _ _ => rfl
      size := Nat.le_refl _
      olds := fun _ h => h
      os := rfl
      tape := rfl
      output := rfl }
  rcases h.pure (E0 P w) w args [] Vs C _ rfl hG hm.symm (fun _ _ => rfl) hM ha hs hC with ⟨_, h1⟩ | ⟨V, w', h1, _⟩
  · refine h1.mono fun e w' ⟨V, he, E', σ', hg, _, h2, h3⟩ => ?_
    have h4 : V = .bool b := h2
    subst h4 hb
    exact ⟨he, h3.os.trans hg.os, h3.tape.trans hg.tape, h3.output.trans hg.output, Nat.le_trans hg.size h3.size, fun k hk => (h3.old k (hg.fz k hk)).trans (hg.w0 k hk)⟩
  · rw [run_enters hf] at h1
    cases h1
end Go.Vm
set_option linter.unusedVariables false
set_option linter.unusedSimpArgs false
namespace Go.Vm
open Go
theorem ro_nil {E : Env} {σ : Sig} {V : Value} (k : IntKind) (h : ScR E σ .nils V) : ScR E σ (.ro k []) V := ⟨none, 0, h, Nat.le_refl _, fun h => absurd h (Nat.lt_irrefl _)⟩
theorem Sub.nilRo {U : Nat} {fr : Fr} {M : Mem} (t : Nat) (k : IntKind) (ht : look t fr = some (.sc .nils)) : Sub U (fr, M) U (put1 t (.sc (.ro k [])) fr, M) := by
  refine Sub.of1 ?_
  rintro E κ n a w ⟨σ, h1, h2⟩
  refine ⟨σ, { val := fun t' v hv => ?_, defers := h1.defers, tmps := h1.tmps, toMemR := h1.toMemR }, h2⟩
  simp only [look_put1] at hv
  split at hv
  · rename_i e
    subst e
    cases hv
    obtain ⟨V, q1, q2⟩ := h1.val _ _ ht
    exact ⟨V, q1, ro_nil (σ := σ) k q2⟩
  · exact h1.val _ _ hv
theorem Sub.nilCell {U : Nat} {fr : Fr} {M : Mem} {l : List Sc} (b j : Nat) (k : IntKind) (hb : look b M = some (.cells l)) (hj : l[j]? = some .nils) : Sub U (fr, M) U (fr, put1 b (.cells (l.set j (.ro k []))) M) := by
  refine Sub.of1 ?_
  rintro E κ n a w ⟨σ, h1, h2⟩
  have key : ∀ L, BlkR E σ w (.cells l) L → BlkR E σ w (.cells (l.set j (.ro k []))) L := by
    intro L hB
    cases L with
    | unset => exact hB
    | nil => exact ⟨by simpa [Blk.len] using hB.1, trivial⟩
    | «at» L =>
      obtain ⟨g1, arr, elem, lo, hi, p1, p2, p3, p4, p5, p6⟩ := hB
      refine ⟨trivial, arr, elem, lo, hi, p1, p2, by simpa [Blk.len] using p3, p4, p5, fun i s hs => ?_⟩
      simp only [Blk.get?] at hs
      by_cases e : i = j
      · subst e
        rw [List.getElem?_set_self (by rw [List.getElem?_eq_some_iff] at hj; exact hj.1)] at hs
        cases hs
        obtain ⟨v, q1, q2⟩ := p6 i _ hj
        exact ⟨v, q1, ro_nil k q2⟩
      · rw [List.getElem?_set_ne (Ne.symm e)] at hs
        exact p6 i s hs
  refine ⟨σ, { toFrR := h1.toFrR, tmps := h1.tmps, toMemR := ?_ }, h2⟩
  have less : ∀ c x, look c (put1 b (Blk.cells (l.set j (.ro k []))) M) = some x → (c = b ∧ x = .cells (l.set j (.ro k []))) ∨ look c M = some x := by
    intro c x hc
    rw [look_put1] at hc
    split at hc
    · rename_i e; exact .inl ⟨e, by cases hc; rfl⟩
    · exact .inr hc
  exact { blk := fun c x hc => by
            rcases less c x hc with ⟨rfl, rfl⟩ | hc
            · exact key _ (h1.blk _ _ hb)
            · exact h1.blk c x hc
          inj := fun c d x y L L' hc hd => by
            have f : ∀ c x, look c (put1 b (Blk.cells (l.set j (.ro k []))) M) = some x → ∃ x', look c M = some x' := by
              intro c x hc
              rcases less c x hc with ⟨rfl, rfl⟩ | hc
              · exact ⟨_, hb⟩
              · exact ⟨_, hc⟩
            obtain ⟨x', hx⟩ := f c x hc
            obtain ⟨y', hy⟩ := f d y hd
            exact h1.inj c d x' y' L L' hx hy
          old := h1.old, size := h1.size, olds := h1.olds, os := h1.os, tape := h1.tape, output := h1.output }
end Go.Vm
set_option linter.unusedVariables false
set_option linter.unusedSimpArgs false
namespace Go.Vm
open Go
section
variable {E : Env} {σ : Sig} {M : Mem} {w : World}
def shiftPl (o : Nat) : Pl → Pl
  | .at L => .at { L with β := L.β + o }
  | x => x
theorem BlkR.shift {k : Blk} {p : Pl} (h : BlkR E σ w k p) {o : Nat} (ho : o ≤ k.len) : BlkR E σ w (k.from o) (shiftPl o p) := by
  cases p with
  | unset => exact h
  | nil =>
    obtain ⟨f1, f2, _⟩ := Blk.from_get h.2 o
    exact ⟨by rw [f2]; have := h.1; omega, f1⟩
  | «at» L =>
    obtain ⟨g1, arr, elem, lo, hi, p1, p2, p3, p4, p5, p6⟩ := h
    obtain ⟨f1, f2, f3⟩ := Blk.from_get g1 o
    refine ⟨f1, arr, elem, lo, hi, p1, p2, by rw [f2]; show L.β + o + _ ≤ L.sz; omega, p4, p5, fun j s hs => ?_⟩
    rw [f3] at hs
    obtain ⟨v, q1, q2⟩ := p6 _ _ hs
    exact ⟨v, by show arr[L.β + o + j]? = _; rw [Nat.add_assoc]; exact q1, q2⟩
theorem MemR.add {b : Nat} {p : Pl} {k : Blk} {M' : Mem} (h : MemR E σ M w) (hn : σ b = .unset) (hsub : ∀ c x, look c M' = some x → look c M = some x) (hB : BlkR E σ w k p)
    (hinj : ∀ L, p = .at L → ∀ c x L', look c M' = some x → σ c = .at L' → L'.g ≠ L.g) : MemR E (upd σ b p) (put1 b k M') w := by
  have hx := ext_upd (σ := σ) p hn
  have hnot : ∀ c x, look c M' = some x → c ≠ b := by
    intro c x hc e
    subst e
    have := h.blk c x (hsub c x hc)
    rw [hn] at this
    exact this
  refine { blk := fun c x hc => ?_, inj := fun c d x y L L' hc hd hL hL' hg => ?_, old := h.old, size := h.size, olds := h.olds, os := h.os, tape := h.tape, output := h.output }
  · rw [look_put1] at hc
    by_cases e : c = b
    · rw [if_pos e] at hc
      injection hc with hc
      subst hc e
      rw [upd_same]
      exact hB.ext hx
    · rw [if_neg e] at hc
      rw [upd_other _ _ e]
      exact (h.blk c x (hsub c x hc)).ext hx
  · rw [look_put1] at hc hd
    by_cases e : c = b <;> by_cases e' : d = b
    · omega
    · exfalso
      rw [if_neg e'] at hd
      rw [e, upd_same] at hL
      rw [upd_other _ _ e'] at hL'
      exact hinj L hL d y L' hd hL' hg.symm
    · exfalso
      rw [if_neg e] at hc
      rw [e', upd_same] at hL'
      rw [upd_other _ _ e] at hL
      exact hinj L' hL' c x L hc hL hg
    · rw [if_neg e] at hc
      rw [if_neg e'] at hd
      rw [upd_other _ _ e] at hL
      rw [upd_other _ _ e'] at hL'
      exact h.inj c d x y L L' (hsub c x hc) (hsub d y hd) hL hL' hg
theorem MemR.reblk {b : Nat} {k k' : Blk} (h : MemR E σ M w) (hb : look b M = some k) (hk : BlkR E σ w k (σ b) → BlkR E σ w k' (σ b)) : MemR E σ (put1 b k' M) w := by
  have less : ∀ c x, look c (put1 b k' M) = some x → (c = b ∧ x = k') ∨ look c M = some x := by
    intro c x hc
    rw [look_put1] at hc
    split at hc
    · rename_i e; exact .inl ⟨e, by cases hc; rfl⟩
    · exact .inr hc
  have f : ∀ c x, look c (put1 b k' M) = some x → ∃ x', look c M = some x' := by
    intro c x hc
    rcases less c x hc with ⟨rfl, rfl⟩ | hc
    · exact ⟨_, hb⟩
    · exact ⟨_, hc⟩
  exact { blk := fun c x hc => by
            rcases less c x hc with ⟨rfl, rfl⟩ | hc
            · exact hk (h.blk _ _ hb)
            · exact h.blk c x hc
          inj := fun c d x y L L' hc hd => by
            obtain ⟨x', hx⟩ := f c x hc
            obtain ⟨y', hy⟩ := f d y hd
            exact h.inj c d x' y' L L' hx hy
          old := h.old, size := h.size, olds := h.olds, os := h.os, tape := h.tape, output := h.output }
theorem BlkR.toVec {l : List Sc} {v : VK} {xs : List v.T} (h : v.unL l = some xs) {p : Pl} (hB : BlkR E σ w (.cells l) p) : BlkR E σ w (.vec v xs) p := by
  have hl := VK.unL_len h
  cases p with
  | unset => exact hB
  | nil => exact ⟨by have := hB.1; simp only [Blk.len] at this ⊢; omega, trivial⟩
  | «at» L =>
    obtain ⟨g1, arr, elem, lo, hi, p1, p2, p3, p4, p5, p6⟩ := hB
    refine ⟨trivial, arr, elem, lo, hi, p1, p2, by simp only [Blk.len] at p3 ⊢; omega, p4, p5, fun i x hx => ?_⟩
    simp only [Blk.get?, Option.map_eq_some_iff] at hx
    obtain ⟨y, hy, rfl⟩ := hx
    obtain ⟨s, h1, h2⟩ := VK.unL_get h hy
    obtain ⟨u, h3, h4⟩ := p6 i s (by simpa [Blk.get?] using h1)
    exact ⟨u, h3, VK.un_R h2 h4⟩
end
variable {fr : Fr} {M : Mem} {U U' : Nat}
theorem FrR.put {E : Env} {σ : Sig} {a : Act} {t : Nat} {v v' : AV} (h : FrR E σ fr a) (ht : look t fr = some v) (hv : ∀ V, AVR E σ v V → AVR E σ v' V) : FrR E σ (put1 t v' fr) a := by
  refine ⟨fun t' u hu => ?_, h.defers⟩
  rw [look_put1] at hu
  split at hu
  · rename_i e
    subst e
    injection hu with hu
    subst hu
    obtain ⟨V, q1, q2⟩ := h.val _ _ ht
    exact ⟨V, q1, hv V q2⟩
  · exact h.val _ _ hu
theorem Sub.tmp {t : Nat} {v v' : AV} (ht : look t fr = some v) (h : ∀ E σ V, AVR E σ v V → AVR E σ v' V) : Sub U (fr, M) U (put1 t v' fr, M) := by
  refine Sub.of1 ?_
  rintro E κ n a w ⟨σ, h1, h2⟩
  exact ⟨σ, { toFrR := h1.toFrR.put ht (h _ _), tmps := h1.tmps, toMemR := h1.toMemR }, h2⟩
theorem Sub.nilRos (t : Nat) (ht : look t fr = some (.sc .nils)) : Sub U (fr, M) U (put1 t (.sc (.ros [])) fr, M) :=
  Sub.tmp ht fun _ _ _ h => ⟨none, 0, h, Nat.le_refl _, fun h => absurd h (Nat.lt_irrefl _)⟩
theorem Sub.reblk {b : Nat} {k k' : Blk} (hb : look b M = some k) (hk : ∀ E σ w p, BlkR E σ w k p → BlkR E σ w k' p) : Sub U (fr, M) U (fr, put1 b k' M) := by
  refine Sub.of1 ?_
  rintro E κ n a w ⟨σ, h1, h2⟩
  exact ⟨σ, { toFrR := h1.toFrR, tmps := h1.tmps, toMemR := h1.toMemR.reblk hb (hk _ _ _ _) }, h2⟩
theorem Sub.toVec (b : Nat) (v : VK) {l : List Sc} (xs : List v.T) (hb : look b M = some (.cells l)) (h : v.unL l = some xs) : Sub U (fr, M) U (fr, put1 b (.vec v xs) M) :=
  Sub.reblk hb fun _ _ _ _ hB => hB.toVec h
def Blk.ro : Blk → Nat → Nat → Sc
  | .ints k n xs, off, len => .ro k (part1 xs n off len)
  | .vec .row xs, off, len => .rob (partV xs off len)
  | .vec .str xs, off, len => .ros (partV xs off len)
  | _, _, _ => .nilp
def Blk.roC : Blk → Nat × Nat → Prop
  | .ints _ n _, p => p.1 + p.2 ≤ n
  | .vec .row xs, p => p.1 + p.2 ≤ xs.length
  | .vec .str xs, p => p.1 + p.2 ≤ xs.length
  | _, _ => False
def condL (f : Nat × Nat → Prop) : List (Nat × Nat) → Prop
  | [] => True
  | [p] => f p
  | p :: r => f p ∧ condL f r
theorem condL_mem {f : Nat × Nat → Prop} : ∀ {l : List (Nat × Nat)}, condL f l → ∀ p ∈ l, f p
  | [], _, p, hp => by cases hp
  | [q], h, p, hp => by
    rw [List.mem_singleton] at hp
    subst hp
    exact h
  | q :: q' :: r, h, p, hp => by
    rcases List.mem_cons.1 hp with rfl | hp
    · exact h.1
    · exact condL_mem h.2 p hp
def Sc.occ (b : Nat) : Sc → List (Nat × Nat)
  | .sl b' off len 1 _ => bif Nat.beq b' b then [(off, len)] else []
  | _ => []
def Sc.frz (b : Nat) (k : Blk) : Sc → Sc
  | .sl b' off len 1 cap => bif Nat.beq b' b then k.ro off len else .sl b' off len 1 cap
  | y => y
def A1.occ (b : Nat) : A1 → List (Nat × Nat)
  | .sc s => s.occ b
  | .agg l => l.flatMap (Sc.occ b)
  | .ints _ _ _ => []
  | .arr _ _ => []
def A1.frz (b : Nat) (k : Blk) : A1 → A1
  | .sc s => .sc (s.frz b k)
  | .agg l => .agg (l.map (Sc.frz b k))
  | .ints k n xs => .ints k n xs
  | .arr v xs => .arr v xs
def AV.occ (b : Nat) : AV → List (Nat × Nat)
  | .sc s => s.occ b
  | .agg l => l.flatMap (Sc.occ b)
  | .ints _ _ _ => []
  | .arr _ _ => []
  | .tup l => l.flatMap (A1.occ b)
def AV.frz (b : Nat) (k : Blk) : AV → AV
  | .sc s => .sc (s.frz b k)
  | .agg l => .agg (l.map (Sc.frz b k))
  | .ints k n xs => .ints k n xs
  | .arr v xs => .arr v xs
  | .tup l => .tup (l.map (A1.frz b k))
def Blk.occ (b : Nat) : Blk → List (Nat × Nat)
  | .cells l => l.flatMap (Sc.occ b)
  | _ => []
def frzB (b : Nat) (k : Blk) : Blk → Blk
  | .cells l => .cells (l.map (Sc.frz b k))
  | x => x
def mapL {α : Type} (f : α → α) : List (Nat × α) → List (Nat × α)
  | [] => []
  | (t, v) :: r => (t, f v) :: mapL f r
theorem look_mapL {α : Type} {f : α → α} {t : Nat} {v : α} : ∀ {l : List (Nat × α)}, look t (mapL f l) = some v → ∃ u, look t l = some u ∧ v = f u
  | [], h => by cases h
  | (m, u) :: r, h => by
    simp only [mapL, look] at h ⊢
    cases hb : Nat.beq m t
    · rw [hb] at h; exact look_mapL (l := r) h
    · rw [hb] at h; simp only [cond_true, Option.some.injEq] at h ⊢; exact ⟨u, rfl, h.symm⟩
def St.occ (b : Nat) (s : St) : List (Nat × Nat) := s.1.flatMap (fun x => x.2.occ b) ++ (drop1 b s.2).flatMap (fun x => x.2.occ b)
def St.frz (b : Nat) (k : Blk) (s : St) : St := (mapL (AV.frz b k) s.1, mapL (frzB b k) (drop1 b s.2))
structure FrzE (E E2 : Env) (σ : Sig) (w : World) (b : Nat) (k : Blk) : Prop where
  gr : Grow E E2
  cell : ∀ off len cap V, ScR E σ (.sl b off len 1 cap) V → off + len ≤ k.len → ∃ A c, V = .slice A len c ∧ len ≤ c ∧ (0 < len → ∃ ad, A = some ad ∧ E2.old ad.block ∧ ∀ j, j < len → ∃ s v, k.get? (off + j) = some s ∧ E2.w0.cell? (ad.add j) = some v ∧ ScR E σ s v)
theorem Blk.ro_R {E E2 : Env} {σ : Sig} {w : World} {b : Nat} {k : Blk} (hz : FrzE E E2 σ w b k) (hg : k.good) {off len : Nat} {cap : Option Nat} {V : Value} (h : ScR E σ (.sl b off len 1 cap) V) (hC : k.roC (off, len)) : ScR E2 σ (k.ro off len) V := by
  cases k with
  | cells l => exact hC.elim
  | ints kk n xs =>
    have hC : off + len ≤ n := hC
    have hg : xs.length = n := hg
    show RoR E2 kk (part1 xs n off len) V
    rw [part1_eq hg]
    obtain ⟨A, c, rfl, q1, q2⟩ := hz.cell off len cap V h hC
    have hlen : ((xs.drop off).take len).length = len := by simp; omega
    refine ⟨A, c, by rw [hlen], by rw [hlen]; exact q1, fun hp => ?_⟩
    rw [hlen] at hp
    obtain ⟨ad, rfl, o1, o2⟩ := q2 hp
    refine ⟨ad, rfl, o1, fun j hj => ?_⟩
    rw [hlen] at hj
    obtain ⟨s, v, a1, a2, a3⟩ := o2 j hj
    have hget : xs[off + j]? = some (xs.getD (off + j) 0) := by
      rw [List.getD_eq_getElem?_getD, List.getElem?_eq_getElem (by omega)]; rfl
    have hs : s = .i kk (xs.getD (off + j) 0) := by
      have : (xs[off + j]?).map (.i kk ·) = some s := a1
      rw [hget] at this
      injection this with this
      exact this.symm
    subst hs
    have a3' : v = .int kk (xs.getD (off + j) 0) := a3
    have : ((xs.drop off).take len).getD j 0 = xs.getD (off + j) 0 := by
      simp [List.getD_eq_getElem?_getD, List.getElem?_take, List.getElem?_drop, hj]
    rw [this, ← a3']
    exact a2
  | vec v xs =>
    cases v with
    | tab => exact hC.elim
    | row =>
      have hC : off + len ≤ xs.length := hC
      show ScR E2 σ (.rob (partV xs off len)) V
      rw [partV_eq]
      obtain ⟨A, c, rfl, q1, q2⟩ := hz.cell off len cap V h hC
      have hlen : ((xs.drop off).take len).length = len := by simp; omega
      refine ⟨A, c, by rw [hlen], by rw [hlen]; exact q1, fun hp => ?_⟩
      rw [hlen] at hp
      obtain ⟨ad, rfl, o1, o2⟩ := q2 hp
      refine ⟨ad, rfl, o1, fun j hj => ?_⟩
      rw [hlen] at hj
      obtain ⟨s, v, a1, a2, a3⟩ := o2 j hj
      have hget : xs[off + j]? = some (xs.getD (off + j) []) := by
        rw [List.getD_eq_getElem?_getD, List.getElem?_eq_getElem (by omega)]; rfl
      have hs : s = .ro .u8 (xs.getD (off + j) []) := by
        have : (xs[off + j]?).map (VK.sc .row) = some s := a1
        rw [hget] at this
        injection this with this
        exact this.symm
      subst hs
      have : ((xs.drop off).take len).getD j [] = xs.getD (off + j) [] := by
        simp [List.getD_eq_getElem?_getD, List.getElem?_take, List.getElem?_drop, hj]
      rw [this]
      exact ⟨v, a2, hz.gr.ro a3⟩
    | str =>
      have hC : off + len ≤ xs.length := hC
      show ScR E2 σ (.ros (partV xs off len)) V
      rw [partV_eq]
      obtain ⟨A, c, rfl, q1, q2⟩ := hz.cell off len cap V h hC
      have hlen : ((xs.drop off).take len).length = len := by simp; omega
      refine ⟨A, c, by rw [hlen], by rw [hlen]; exact q1, fun hp => ?_⟩
      rw [hlen] at hp
      obtain ⟨ad, rfl, o1, o2⟩ := q2 hp
      refine ⟨ad, rfl, o1, fun j hj => ?_⟩
      rw [hlen] at hj
      obtain ⟨s, v, a1, a2, a3⟩ := o2 j hj
      have hget : xs[off + j]? = some (xs.getD (off + j) ⟨#[]⟩) := by
        rw [List.getD_eq_getElem?_getD, List.getElem?_eq_getElem (by omega)]; rfl
      have hs : s = .s (xs.getD (off + j) ⟨#[]⟩) := by
        have : (xs[off + j]?).map (VK.sc .str) = some s := a1
        rw [hget] at this
        injection this with this
        exact this.symm
      subst hs
      have a3' : v = .string (xs.getD (off + j) ⟨#[]⟩) := a3
      have : ((xs.drop off).take len).getD j ⟨#[]⟩ = xs.getD (off + j) ⟨#[]⟩ := by
        simp [List.getD_eq_getElem?_getD, List.getElem?_take, List.getElem?_drop, hj]
      rw [this, ← a3']
      exact a2
section
variable {E E2 : Env} {σ : Sig} {w : World} {b : Nat} {k : Blk}
theorem Sc.frz_R (hz : FrzE E E2 σ w b k) (hg : k.good) {s : Sc} {V : Value} (h : ScR E σ s V) (hC : ∀ p ∈ s.occ b, k.roC p) : ScR E2 σ (s.frz b k) V := by
  unfold Sc.frz
  split
  · rename_i b' off len cap
    cases hb : Nat.beq b' b
    · exact ScR.grow (s := .sl b' off len 1 cap) hz.gr h
    · have e := Nat.eq_of_beq_eq_true hb
      subst e
      exact Blk.ro_R hz hg h (hC (off, len) (by simp [Sc.occ, beqT]))
  · exact h.grow hz.gr
theorem scL_frz (hz : FrzE E E2 σ w b k) (hg : k.good) : ∀ {l : List Sc} {m : List Value}, All2 (ScR E σ) l m → (∀ p ∈ l.flatMap (Sc.occ b), k.roC p) → All2 (ScR E2 σ) (l.map (Sc.frz b k)) m
  | [], [], _, _ => trivial
  | s :: r, V :: m, h, hC => ⟨Sc.frz_R hz hg h.1 fun p hp => hC p (by simp [hp]), scL_frz hz hg h.2 fun p hp => hC p (by simp only [List.flatMap_cons, List.mem_append]; exact .inr hp)⟩
theorem A1.frz_R (hz : FrzE E E2 σ w b k) (hg : k.good) {v : A1} {V : Value} (h : A1R E σ v V) (hC : ∀ p ∈ v.occ b, k.roC p) : A1R E2 σ (v.frz b k) V := by
  cases v with
  | sc s => exact Sc.frz_R hz hg h hC
  | agg l => obtain ⟨arr, e, q⟩ := h; exact ⟨arr, e, scL_frz hz hg q hC⟩
  | arr v xs => obtain ⟨arr, e, q⟩ := h; exact ⟨arr, e, q.mono fun _ _ h => h.grow hz.gr⟩
  | ints k n xs => exact h
theorem a1L_frz (hz : FrzE E E2 σ w b k) (hg : k.good) : ∀ {l : List A1} {m : List Value}, All2 (A1R E σ) l m → (∀ p ∈ l.flatMap (A1.occ b), k.roC p) → All2 (A1R E2 σ) (l.map (A1.frz b k)) m
  | [], [], _, _ => trivial
  | s :: r, V :: m, h, hC => ⟨A1.frz_R hz hg h.1 fun p hp => hC p (by simp [hp]), a1L_frz hz hg h.2 fun p hp => hC p (by simp only [List.flatMap_cons, List.mem_append]; exact .inr hp)⟩
theorem AV.frz_R (hz : FrzE E E2 σ w b k) (hg : k.good) {v : AV} {V : Value} (h : AVR E σ v V) (hC : ∀ p ∈ v.occ b, k.roC p) : AVR E2 σ (v.frz b k) V := by
  cases v with
  | sc s => exact Sc.frz_R hz hg h hC
  | agg l => obtain ⟨arr, e, q⟩ := h; exact ⟨arr, e, scL_frz hz hg q hC⟩
  | arr v xs => obtain ⟨arr, e, q⟩ := h; exact ⟨arr, e, q.mono fun _ _ h => h.grow hz.gr⟩
  | ints k n xs => exact h
  | tup l => obtain ⟨arr, e, q⟩ := h; exact ⟨arr, e, a1L_frz hz hg q hC⟩
theorem frzB_R (hz : FrzE E E2 σ w b k) (hg : k.good) {x : Blk} {p : Pl} (hfz : ∀ l, p = .at l → ¬ E2.fz l.g) (h : BlkR E σ w x p) (hC : ∀ p ∈ x.occ b, k.roC p) : BlkR E2 σ w (frzB b k x) p := by
  cases x with
  | ints kk n xs => exact Blk.grow hz.gr hfz h
  | vec v xs => exact Blk.grow hz.gr hfz h
  | cells l =>
    have hB := Blk.grow hz.gr hfz h
    cases p with
    | unset => exact h
    | nil => exact ⟨by have := h.1; simpa [frzB, Blk.len] using this, trivial⟩
    | «at» L =>
      obtain ⟨g1, arr, elem, lo, hi, p1, p2, p3, p4, p5, p6⟩ := h
      refine ⟨trivial, arr, elem, lo, hi, p1, p2, by simpa [frzB, Blk.len] using p3, hfz L rfl, p5, fun i s hs => ?_⟩
      simp only [frzB, Blk.get?, List.getElem?_map, Option.map_eq_some_iff] at hs
      obtain ⟨s0, h0, rfl⟩ := hs
      obtain ⟨v, q1, q2⟩ := p6 i s0 h0
      exact ⟨v, q1, Sc.frz_R hz hg q2 fun p hp => hC p (List.mem_flatMap.2 ⟨s0, List.mem_of_getElem? h0, hp⟩)⟩
end
theorem Sub.still {s s' : St} (b : Nat) (k : Blk) (hM : look b s.2 = some k) (hC : condL k.roC (s.occ b)) (hs : s.frz b k = s') : Sub U s U s' := by
  subst hs
  obtain ⟨fr, M⟩ := s
  have hcond := condL_mem hC
  rintro E n' a w ⟨E1, hg, σ, h1, h2, h3, h4⟩
  have hB := h1.toMemR.blk b _ hM
  have hgood : k.good := blk_good h1.toMemR hM
  have less : ∀ c k', look c (drop1 b M) = some k' → c ≠ b ∧ look c M = some k' := by
    intro c k' hc
    rw [look_drop1] at hc
    split at hc
    · cases hc
    · rename_i e; exact ⟨e, hc⟩
  have fin : ∀ E2, FrzE E1 E2 σ w b k → E2.kp = E1.kp → (∀ c k' L', c ≠ b → look c M = some k' → σ c = .at L' → ¬ E2.fz L'.g) → (∀ g, E2.fz g → w.heap[g]? = E2.w0.heap[g]?) → E2.w0.heap.size ≤ w.heap.size → (∀ g, E2.fz g → g < E2.w0.heap.size) →
      w.os = E2.w0.os → w.tape = E2.w0.tape → w.output = E2.w0.output → Good E n' U (St.frz b k (fr, M)) a w := by
    intro E2 hz hkp hout o1 o2 o3 o4 o5 o6
    refine ⟨E2, hg.trans hz.gr, σ, ?_, h2, h3, h4⟩
    refine { val := fun t v hv => ?_, defers := h1.defers, tmps := h1.tmps, blk := fun c x hc => ?_, inj := fun c d x y L L' hc hd => ?_, old := o1, size := o2, olds := o3, os := o4, tape := o5, output := o6 }
    · obtain ⟨u, q1, rfl⟩ := look_mapL hv
      obtain ⟨V, q2, q3⟩ := h1.val _ _ q1
      exact ⟨V, q2, AV.frz_R hz hgood q3 fun p hp => hcond p (List.mem_append_left _ (List.mem_flatMap.2 ⟨(t, u), look_mem q1, hp⟩))⟩
    · obtain ⟨u, q1, rfl⟩ := look_mapL hc
      obtain ⟨hne, hc'⟩ := less c u q1
      refine frzB_R hz hgood (fun l hl => hout c u l hne hc' hl) (h1.toMemR.blk c u hc') fun p hp => hcond p (List.mem_append_right _ (List.mem_flatMap.2 ⟨(c, u), look_mem q1, hp⟩))
    · obtain ⟨u, q1, _⟩ := look_mapL hc
      obtain ⟨u', q2, _⟩ := look_mapL hd
      exact h1.inj c d u u' L L' (less c u q1).2 (less d u' q2).2
  cases hL : σ b with
  | unset => rw [hL] at hB; exact hB.elim
  | nil =>
    rw [hL] at hB
    refine fin E1 ⟨.refl _, fun off len cap V h hle => ?_⟩ rfl (fun c k' L' _ hc hl => ?_) h1.old h1.size h1.olds h1.os h1.tape h1.output
    · rcases h with ⟨q1, _, A, rfl⟩ | ⟨L, c, q1, _⟩
      · subst q1
        exact ⟨A, 0, rfl, Nat.le_refl _, fun h => absurd h (Nat.lt_irrefl _)⟩
      · rw [hL] at q1; cases q1
    · have := h1.toMemR.blk c k' hc
      rw [hl] at this
      obtain ⟨_, _, _, _, _, _, _, _, q4, _⟩ := this
      exact q4
  | «at» L =>
    rw [hL] at hB
    obtain ⟨g1, arr, elem, lo, hi, p1, p2, p3, p4, p5, p6⟩ := hB
    have hinj : ∀ c k' L', c ≠ b → look c M = some k' → σ c = .at L' → L'.g ≠ L.g := fun c k' L' hne hc hL' he => hne (h1.inj c b k' _ L' L hc hM hL' hL he)
    let E2 : Env := { P := E1.P, w0 := w, old := fun g => E1.old g ∨ g = L.g, fz := fun g => E1.fz g ∨ g = L.g, sub := fun g h => h.elim (fun h => .inl (E1.sub g h)) .inr, kp := E1.kp }
    have gr : Grow E1 E2 :=
      { P := rfl, old := fun g h => .inl h, fz := fun g h => .inl h, w0 := fun g h => h1.old g h
        new := fun g h => by
          rcases h with h | h
          · exact .inl h
          · subst h; exact .inr p4
        size := h1.size, os := h1.os, tape := h1.tape, output := h1.output }
    refine fin E2 ⟨gr, fun off len cap V h hle => ?_⟩ rfl (fun c k' L' hne hc hl hz => ?_) (fun _ _ => rfl) (Nat.le_refl _) (fun g hg => ?_) rfl rfl rfl
    · rcases h with ⟨q1, _, A, rfl⟩ | ⟨L', c, q1, rfl, q2, q3, _⟩
      · subst q1
        exact ⟨A, 0, rfl, Nat.le_refl _, fun h => absurd h (Nat.lt_irrefl _)⟩
      · rw [hL] at q1
        injection q1 with q1
        subst q1
        refine ⟨_, c, rfl, q2, fun _ => ⟨_, rfl, .inr rfl, fun j hj => ?_⟩⟩
        obtain ⟨s, hs⟩ := Blk.get_some g1 (show off + j < k.len by omega)
        obtain ⟨v, e5, e6⟩ := p6 (off + j) _ hs
        refine ⟨s, v, hs, ?_, e6⟩
        rw [addr_add]
        show w.cell? _ = _
        have hlt : L.β + off + j < L.sz := by omega
        have := p5.1 (L.β + off + j) hlt
        simp [World.cell?, p1, this]
        rw [Nat.add_assoc]
        exact e5
    · rcases hz with hz | hz
      · have hB' := h1.toMemR.blk c k' hc
        rw [hl] at hB'
        obtain ⟨_, _, _, _, _, _, _, _, q4, _⟩ := hB'
        exact q4 hz
      · exact hinj c k' L' hne hc hl hz
    · rcases hg with hg | hg
      · exact Nat.lt_of_lt_of_le (h1.olds g hg) h1.size
      · subst hg; exact heap_lt p1
end Go.Vm
set_option linter.unusedVariables false
set_option linter.unusedSimpArgs false
namespace Go.Vm
open Go
theorem Known.ext {P : Program} {G : Globs} {f : FuncId} {fn : Func} {e : Array Value → Sem Value} {spec : List AV → List Blk → Option (Prop × Ret)} (hf : P.funcs[f]? = some fn) (hname : (fn.name == "runtime.NumGoroutine") = false)
    (hb : fn.body.isNone = true) (hn : Extern.findNext fn = none) (he : Extern.find fn = some e)
    (h : ∀ (E : Env) (σ : Sig) (args : List AV) (Vs : Array Value) (C : Prop) (r : Ret) (w : World), spec args [] = some (C, r) → C → All2 (AVR E σ) args Vs.toList → r.bs = [] ∧ ∃ V, (e Vs).run P w = .ok V w ∧ AVR E σ r.v V) : Known P G f ⟨0, 0, spec⟩ := by
  refine ⟨Nat.zero_le _, ?_⟩
  intro E w args ks Vs C r hP hG hks hkp hM hargs hsp hC
  cases ks with
  | cons _ _ => cases hks
  | nil =>
    obtain ⟨h1, V, h2, h3⟩ := h E E.kp args Vs C r w hsp hC hargs
    refine .inr ⟨V, w, ?_, E, E.kp, .refl E, fun _ hj => absurd hj (by simp), h3, ?_⟩
    · rw [run_callFunc_extern hf hname hb hn he, h2]; rfl
    · rw [h1]; exact hM
theorem strEq_data (x y : ByteArray) : strEq x y = (x.data.toList == y.data.toList) := by
  unfold strEq
  rw [Lib.toList_data, Lib.toList_data]
theorem strEq_eq {x y : ByteArray} (h : strEq x y = true) : x = y := by
  rw [strEq_data, beq_iff_eq] at h
  obtain ⟨⟨l⟩⟩ := x
  obtain ⟨⟨m⟩⟩ := y
  have : l = m := h
  rw [this]
theorem size_bytesOf (xs : List Int) : (bytesOf xs).size = xs.length := by simp [bytesOf, ByteArray.size]
theorem strEq_nz {x : ByteArray} (h : (!(strEq x ⟨#[]⟩)) = true) : 0 < x.size := by
  rw [strEq_data] at h
  obtain ⟨⟨l⟩⟩ := x
  cases l with
  | nil => cases h
  | cons a r => show 0 < (a :: r).length; rw [List.length_cons]; omega
theorem size_sel {b : Bool} {x y : ByteArray} {n : Nat} (hx : x.size ≤ n) (hy : y.size ≤ n) : (sel b x y).size ≤ n := by
  cases b
  · rw [sel_false]; exact hy
  · rw [sel_true]; exact hx
theorem len_sel {α : Type} {b : Bool} {x y : List α} {n : Nat} (hx : x.length ≤ n) (hy : y.length ≤ n) : (sel b x y).length ≤ n := by
  cases b
  · rw [sel_false]; exact hy
  · rw [sel_true]; exact hx
def idxB (s : ByteArray) (c : Int) : Int := Lib.indexByte s.data.toList c.toNat.toUInt8
def cntB (s : ByteArray) (c : Int) : Nat := Lib.countByte s.data.toList c.toNat.toUInt8
theorem idx_lt : ∀ (l : List UInt8) (c : UInt8), Lib.indexByte l c < (l.length : Int)
  | [], c => by show (-1 : Int) < 0; decide
  | b :: l, c => by
    have := idx_lt l c
    unfold Lib.indexByte
    simp only [List.length_cons]
    split
    · omega
    · split <;> omega
theorem idx_in (s : ByteArray) (c : Int) : -1 ≤ idxB s c ∧ idxB s c < (s.size : Int) := by
  have h := idx_lt s.data.toList c.toNat.toUInt8
  rw [Array.length_toList] at h
  exact ⟨Lib.indexByte_ge _ _, h⟩
theorem cnt_le (s : ByteArray) (c : Int) : cntB s c ≤ s.size := by
  unfold cntB Lib.countByte
  exact Nat.le_trans List.count_le_length (by rw [Array.length_toList]; exact Nat.le_refl _)
theorem extract_le (s : ByteArray) (a b : Nat) : (s.extract a b).size ≤ s.size := by
  rw [ByteArray.size_extract]
  omega
theorem extract_le' (s : ByteArray) (a b : Nat) : (s.extract a b).size ≤ b - a := by
  rw [ByteArray.size_extract]
  omega
def specIdx : List AV → List Blk → Option (Prop × Ret)
  | [.sc (.s s), .sc (.i .u8 c)], [] => some (True, ⟨.sc (.i .i64 (idxB s c)), []⟩)
  | _, _ => none
def specCnt : List AV → List Blk → Option (Prop × Ret)
  | [.sc (.s s), .sc (.i .u8 c)], [] => some (True, ⟨.sc (.i .i64 ((cntB s c : Nat) : Int)), []⟩)
  | _, _ => none
theorem two_args {E : Env} {σ : Sig} {s : ByteArray} {c : Int} {Vs : Array Value} (h : All2 (AVR E σ) [.sc (.s s), .sc (.i .u8 c)] Vs.toList) : Vs = #[.string s, .int .u8 c] := by
  obtain ⟨l⟩ := Vs
  match l, h with
  | [a, b], ⟨h1, h2, _⟩ =>
    have e1 : a = .string s := h1
    have e2 : b = .int .u8 c := h2
    subst e1 e2
    rfl
theorem known_idx {P : Program} {G : Globs} {f : FuncId} {fn : Func} (hf : P.funcs[f]? = some fn) (hname : (fn.name == "runtime.NumGoroutine") = false) (hb : fn.body.isNone = true) (hn : Extern.findNext fn = none)
    (he : Extern.find fn = some Extern.BytealgIndexByte.indexByte) : Known P G f ⟨0, 0, specIdx⟩ :=
  Known.ext hf hname hb hn he fun E σ args Vs C r w hs hC ha => by
    unfold specIdx at hs
    split at hs
    · cases hs
      rw [two_args ha]
      exact ⟨rfl, _, Lib.run_indexByteString _ _ w, rfl⟩
    · cases hs
theorem known_cnt {P : Program} {G : Globs} {f : FuncId} {fn : Func} (hf : P.funcs[f]? = some fn) (hname : (fn.name == "runtime.NumGoroutine") = false) (hb : fn.body.isNone = true) (hn : Extern.findNext fn = none)
    (he : Extern.find fn = some Extern.BytealgCount.count) : Known P G f ⟨0, 0, specCnt⟩ :=
  Known.ext hf hname hb hn he fun E σ args Vs C r w hs hC ha => by
    unfold specCnt at hs
    split at hs
    · cases hs
      rw [two_args ha]
      exact ⟨rfl, _, Lib.run_countString _ _ w, rfl⟩
    · cases hs
end Go.Vm
set_option linter.unusedVariables false
set_option linter.unusedSimpArgs false
namespace Go.Vm
open Go
theorem MemR.below {E : Env} {σ : Sig} {M : Mem} {w w' : World} (h : MemR E σ M w) (b : Go.RowKit.Below w.heap.size w w') : MemR E σ M w' where
  blk c k hc := (h.blk c k hc).same fun L hL => b.block _ (by have := h.blk c k hc; rw [hL] at this; exact this.lt)
  inj := h.inj
  old g hg := (b.block g (Nat.lt_of_lt_of_le (h.olds g hg) h.size)).trans (h.old g hg)
  size := Nat.le_trans h.size b.size
  olds := h.olds
  os := b.os.trans h.os
  tape := b.tape.trans h.tape
  output := b.output.trans h.output
def joinB (xs : List ByteArray) (sep : ByteArray) : ByteArray := ⟨(Lib.join (xs.map (·.data.toList)) sep.data.toList).toArray⟩
def sumB : List ByteArray → Nat
  | [] => 0
  | x :: r => x.size + sumB r
theorem joinTail_len (sep : List UInt8) : ∀ r : List ByteArray, (Lib.joinTail sep (r.map (·.data.toList))).length = sumB r + r.length * sep.length
  | [] => by simp [Lib.joinTail, sumB]
  | x :: r => by
    have ih := joinTail_len sep r
    unfold Lib.joinTail at ih ⊢
    have e1 : x.data.toList.length = x.size := Array.length_toList
    rw [List.map_cons, List.map_cons, List.flatten_cons, List.length_append, List.length_append, ih, sumB, List.length_cons, e1, Nat.add_mul]
    omega
theorem joinB_size (xs : List ByteArray) (sep : ByteArray) : (joinB xs sep).size ≤ sumB xs + xs.length * sep.size := by
  show (Lib.join (xs.map (·.data.toList)) sep.data.toList).length ≤ _
  cases xs with
  | nil => rw [List.map_nil, Lib.join_nil]; exact Nat.zero_le _
  | cons x r =>
    have e1 : x.data.toList.length = x.size := Array.length_toList
    have e2 : sep.data.toList.length = sep.size := Array.length_toList
    rw [List.map_cons, Lib.join_cons, List.length_append, joinTail_len, sumB, List.length_cons, e1, e2, Nat.add_mul]
    omega
def specJoin : List AV → List Blk → Option (Prop × Ret)
  | [.sc (.ros xs), .sc (.s sep)], [] => some (xs.length ≤ 1000000000 ∧ (joinB xs sep).size ≤ 1000000000, ⟨.sc (.s (joinB xs sep)), []⟩)
  | _, _ => none
theorem cell_spot {w : World} {a : Addr} {v : Value} (h : w.cell? a = some v) : a = ⟨a.block, a.off, none⟩ := by
  obtain ⟨b, o, s⟩ := a
  unfold World.cell? at h
  cases s with
  | none => rfl
  | some s =>
    exfalso
    revert h
    split <;> simp
theorem known_join {P : Program} {G : Globs} {f : FuncId} (hf : entersB P f = true) (h0 : ∀ (a : Option Addr) (c : Nat) (sep : ByteArray) (w : World), Calls P f #[.slice a 0 c, .string sep] w fun e w' => e = .returned (.string ⟨#[]⟩) ∧ w' = w)
    (h1 : ∀ (bk o c : Nat) (xs : List ByteArray) (sep : ByteArray) (w : World) (hcells : ∀ (j : Nat) x, xs[j]? = some x → w.cell? ⟨bk, o + j, none⟩ = some (.string x)) (hbk : bk < w.heap.size) (hN : xs.length ≤ 140737488355328) (hcap : xs.length ≤ c)
      (hlen : (Lib.join (xs.map (·.data.toList)) sep.data.toList).length ≤ 140737488355328),
      Calls P f #[.slice (some ⟨bk, o, none⟩) xs.length c, .string sep] w fun e w' => e = .returned (.string ⟨(Lib.join (xs.map (·.data.toList)) sep.data.toList).toArray⟩) ∧ Go.RowKit.Below w.heap.size w w') : Known P G f ⟨0, 0, specJoin⟩ := by
  refine ⟨Nat.zero_le _, ?_⟩
  intro E w args ks Vs C r hP hG hks hkp hM hargs hsp hC
  simp only at hsp
  unfold specJoin at hsp
  split at hsp
  · rename_i xs sep
    cases hsp
    have hVs : ∃ V, Vs = #[V, .string sep] ∧ ScR E E.kp (.ros xs) V := by
      obtain ⟨l⟩ := Vs
      match l, hargs with
      | [a, b], ⟨h1, h2, _⟩ =>
        have e2 : b = .string sep := h2
        subst e2
        exact ⟨a, rfl, h1⟩
    obtain ⟨V, rfl, A, c, rfl, hle, hA⟩ := hVs
    refine .inl ⟨hf, ?_⟩
    cases xs with
    | nil =>
      refine (h0 A c sep w).mono fun e w' ⟨he, hw⟩ => ?_
      subst hw
      exact ⟨_, he, E, E.kp, .refl E, fun _ hj => absurd hj (Nat.not_lt_zero _), rfl, hM⟩
    | cons x xs =>
      obtain ⟨ad, rfl, ho, hc⟩ := hA (by simp)
      have hcw : ∀ j, j < (x :: xs).length → w.cell? (ad.add j) = some (.string ((x :: xs).getD j ⟨#[]⟩)) := by
        intro j hj
        rw [hM.oldCell (by rw [add_block]; exact ho)]
        exact hc j hj
      have hsp := cell_spot (a := ad) (v := .string x) (hcw 0 (by simp))
      have hlt : ad.block < w.heap.size := Nat.lt_of_lt_of_le (hM.olds _ (E.sub _ ho)) hM.size
      rw [hsp]
      refine (h1 ad.block ad.off c (x :: xs) sep w ?_ hlt (by have := hC.1; omega) hle (by have := hC.2; unfold joinB at this; have e : (ByteArray.mk (Lib.join ((x :: xs).map (·.data.toList)) sep.data.toList).toArray).size = (Lib.join ((x :: xs).map (·.data.toList)) sep.data.toList).length := rfl; rw [e] at this; omega)).mono fun e w' ⟨he, hb⟩ => ?_
      · intro j y hy
        have hj := (List.getElem?_eq_some_iff.1 hy).1
        have := hcw j hj
        rw [hsp, addr_add] at this
        rw [this, List.getD_eq_getElem?_getD, hy]
        rfl
      · exact ⟨_, he, E, E.kp, .refl E, fun _ hj => absurd hj (Nat.not_lt_zero _), rfl, hM.below hb⟩
  · cases hsp
end Go.Vm
set_option linter.unusedVariables false
set_option linter.unusedSimpArgs false
namespace Go.Vm
open Go
theorem put_get {a : Act} {t : Nat} {V : Value} (h : t < a.tmps.size) : (a.put (some t) V).tmps[t]? = some V := by
  simp only [Act.put]
  rw [Array.getElem?_setIfInBounds_self]
  simp [h]
theorem put_ne {a : Act} {t u : Nat} {V : Value} (h : t ≠ u) : (a.put (some t) V).tmps[u]? = a.tmps[u]? := by
  simp only [Act.put]
  rw [Array.getElem?_setIfInBounds_ne h]
theorem FrR.put0 {E : Env} {σ : Sig} {fr : Fr} {a : Act} {t : Nat} {V : Value} (h : FrR E σ fr a) (ht : look t fr = none) : FrR E σ fr (a.put (some t) V) := by
  refine ⟨fun u v hu => ?_, h.defers⟩
  obtain ⟨W, h1, h2⟩ := h.val u v hu
  refine ⟨W, ?_, h2⟩
  rw [put_ne (fun e => by subst e; rw [ht] at hu; cases hu)]
  exact h1
def ptr (g : Nat) : Value := .pointer (some ⟨g, 0, none⟩)
def ItS (t33 g : Nat) (s : St) : St := (put1 t33 (.sc (.raw (ptr g))) s.1, s.2)
def GoodI (E : Env) (n U : Nat) (s : St) (a : Act) (w : World) (g : Nat) (x : ByteArray) (pos : Nat) : Prop := ∃ E', Grow E E' ∧ Good1 E' E.kp n U s a w ∧ w.heap[g]? = some (.stringIter x pos) ∧ ¬ E'.fz g
theorem not_iter {E : Env} {σ : Sig} {M : Mem} {w : World} {g : Nat} {x : ByteArray} {pos : Nat} (h : MemR E σ M w) (hg : w.heap[g]? = some (.stringIter x pos)) {b : Nat} {k : Blk} {L : Loc} (hb : look b M = some k) (hL : σ b = .at L) : L.g ≠ g := by
  intro e
  have hB := h.blk b k hb
  rw [hL] at hB
  obtain ⟨_, arr, elem, lo, hi, q1, _⟩ := hB
  rw [e, hg] at q1
  cases q1
theorem GoodI.hold {E : Env} {n U : Nat} {s : St} {a : Act} {w : World} {g : Nat} {x : ByteArray} {pos : Nat} (h : GoodI E n U s a w g x pos) :
    ∃ E1, Grow E E1 ∧ E1.kp = E.kp ∧ Good E1 n U s a w ∧ E1.fz g ∧ ¬ E1.old g ∧ E1.w0.heap[g]? = some (.stringIter x pos) ∧ ¬ E.fz g := by
  obtain ⟨E', hg, ⟨σ, h1, h2, h3, h4⟩, h5, h6⟩ := h
  have hgo : ¬ E'.old g := fun h => h6 (E'.sub g h)
  have hgE : ¬ E.fz g := fun h => h6 (hg.fz g h)
  let E1 : Env := { P := E'.P, w0 := w, old := E'.old, fz := fun k => E'.fz k ∨ k = g, sub := fun k h => .inl (E'.sub k h), kp := E.kp }
  have gr : Grow E' E1 :=
    { P := rfl, old := fun _ h => h, fz := fun _ h => .inl h, w0 := fun k h => h1.old k h, new := fun _ h => .inl h, size := h1.size, os := h1.os, tape := h1.tape, output := h1.output }
  refine ⟨E1, hg.trans gr, rfl, ⟨E1, .refl E1, σ, ?_, h2, h3, h4⟩, .inr rfl, hgo, h5, hgE⟩
  refine { toFrR := h1.toFrR.grow gr, tmps := h1.tmps, blk := fun b k hb => ?_, inj := h1.inj, old := fun _ _ => rfl, size := Nat.le_refl _, olds := fun k hk => ?_, os := rfl, tape := rfl, output := rfl }
  · refine Blk.grow gr (fun l hl hz => ?_) (h1.blk b k hb)
    rcases hz with hz | hz
    · have hB := h1.blk b k hb
      rw [hl] at hB
      obtain ⟨_, _, _, _, _, _, _, _, q4, _⟩ := hB
      exact q4 hz
    · exact not_iter h1.toMemR h5 hb hl hz
  · rcases hk with hk | hk
    · exact Nat.lt_of_lt_of_le (h1.olds k hk) h1.size
    · subst hk; exact (Array.getElem?_eq_some_iff.1 h5).1
theorem GoodI.frame {E : Env} {n U : Nat} {s s' : St} {a a' : Act} {w : World} {g : Nat} {x : ByteArray} {pos : Nat} (h : GoodI E n U s a w g x pos) (hM : s'.2 = s.2) (hn : a'.tmps.size = a.tmps.size) (hf : ∀ E' σ, FrR E' σ s.1 a → FrR E' σ s'.1 a') : GoodI E n U s' a' w g x pos := by
  obtain ⟨E', hg, ⟨σ, h1, h2, h3, h4⟩, h5, h6⟩ := h
  exact ⟨E', hg, ⟨σ, { toFrR := hf _ _ h1.toFrR, tmps := hn.trans h1.tmps, toMemR := by rw [hM]; exact h1.toMemR }, h2, h3, h4⟩, h5, h6⟩
theorem GoodI.val {E : Env} {n U : Nat} {s : St} {a : Act} {w : World} {g : Nat} {x : ByteArray} {pos : Nat} (h : GoodI E n U s a w g x pos) {t : Nat} {v : Value} (ht : look t s.1 = some (.sc (.raw v))) : a.tmps[t]? = some v := by
  obtain ⟨E', _, ⟨σ, h1, _⟩, _⟩ := h
  obtain ⟨V, q1, q2⟩ := h1.val _ _ ht
  rw [q1, show V = v from q2.1]
theorem GoodI.size {E : Env} {n U : Nat} {s : St} {a : Act} {w : World} {g : Nat} {x : ByteArray} {pos : Nat} (h : GoodI E n U s a w g x pos) : a.tmps.size = n := by
  obtain ⟨E', _, ⟨σ, h1, _⟩, _⟩ := h
  exact h1.tmps
variable {B : Bs} {E : Env} {U : Nat} {s : St} {Q : Post}
def iterP (U0 t33 g : Nat) (s0 : St) (J : Prop) (Q : Post) : Post
  | .normal, U, s => J ∧ Sub U s U0 (ItS t33 g s0)
  | e, U, s => Q e U s
end Go.Vm
set_option linter.unusedVariables false
namespace Go.Vm
open Go
variable {B : Bs} {E : Env} {U : Nat} {s : St} {Q : Post}
def subP (Q : Post) : Post := fun e U s => ∃ U' s', Sub U s U' s' ∧ Q e U' s'
theorem Tri.subP {c : Code} (h : Tri B E c U s (subP Q)) : Tri B E c U s Q := by
  intro hB a w g
  refine wp_mono (h hB a w g) ?_
  rintro e a' w' ⟨U', s', h1, U'', s'', h2, h3⟩
  exact ⟨U'', s'', h2 _ _ _ _ h1, h3⟩
theorem subP_done {e : Exit} (h : Q e U s) : Vm.subP Q e U s := ⟨U, s, .refl U s, h⟩
theorem endP.nret {P : Program} {rs : List ResultVar} {m : Nat} {r : Ret} (ns : Ren) (C : Prop) (h1 : (renOk ns r.bs.length && ren16 ns m) = true) (h3 : finish P rs ns r.bs.length s = some (C, r)) (h4 : C) : endP P rs m r .normal U s := ⟨ns, C, h1, h3, h4⟩
end Go.Vm
set_option linter.unusedVariables false
namespace Go.Vm
open Go
structure PP where
  P : Prop
  h : P
def pT : PP := ⟨True, trivial⟩
def pz : PP := ⟨TT, tt⟩
def pa (a b : PP) : PP := ⟨a.P ∧ b.P, a.h, b.h⟩
def pl {P : Prop} (h : P) : PP := ⟨P, h⟩
def lo (P : Prop) (h : P := by first | omega | (rw [adr_eq]; omega) | exact iAnd_nn _ _ | exact iSub_nn _ _ | exact part1_le (by omega) (by first | omega | (simp only [List.length_append]; omega)) | (rw [iMul_i64 (by omega) (by omega)]; omega) | decide) : PP := ⟨P, h⟩
def li (P : Prop) (h : P := by first | omega | (unfold iSub; rw [wrap_small (by omega) (by omega)]; omega) | exact iAnd_nn _ _ | exact iSub_nn _ _) : PP := ⟨P, h⟩
def lr (P : Prop) (h : P := by rfl) : PP := ⟨P, h⟩
def ld (P : Prop) (h : P := by decide) : PP := ⟨P, h⟩
def t1 (r : PP) : PP := pa pz r
def t2 (r : PP) : PP := t1 (t1 r)
def t3 (r : PP) : PP := t1 (t2 r)
def t4 (r : PP) : PP := t1 (t3 r)
def t5 (r : PP) : PP := t1 (t4 r)
def t6 (r : PP) : PP := t1 (t5 r)
def t7 (r : PP) : PP := t1 (t6 r)
def t8 (r : PP) : PP := t1 (t7 r)
def t9 (r : PP) : PP := t1 (t8 r)
def zt (n : Nat) : List (List ByteArray) := List.replicate n []
def pg {P : Prop} (h : P) (r : PP) : PP := pa (pa pT (pl h)) r
def pu (a r : PP) : PP := pa (pa a pT) r
def pv (a b r : PP) : PP := pa (pa a b) r
variable {B : Bs} {E : Env} {U : Nat} {s : St} {Q : Post}
theorem sq {id : Nat} {ops : Array Oper} {draw : Bool} {d : Code} (hints : List (Nat × AV)) (ms : Option (List Nat)) (kf km : List Nat) (s' : St) (U' : Nat) (p : PP) (hq : Tri B E d U' s' Q)
    (h : runK B hints U ops ms kf km s = some (p.P, s') := by kernel_rfl) (hd : ms.isSome = draw := by rfl) (hU : Nat.ble (U + 16 * ops.size) U' = true := by kernel_rfl) : Tri B E (.seq (.region id ops draw) d) U s Q :=
  Tri.seq_region hints ms kf km p.P s' U' h hd hU p.h hq
theorem rq {id : Nat} {ops : Array Oper} {draw : Bool} (hints : List (Nat × AV)) (ms : Option (List Nat)) (kf km : List Nat) (s' : St) (U' : Nat) (p : PP) (hq : Q .normal U' s')
    (h : runK B hints U ops ms kf km s = some (p.P, s') := by kernel_rfl) (hd : ms.isSome = draw := by rfl) (hU : Nat.ble (U + 16 * ops.size) U' = true := by kernel_rfl) : Tri B E (.region id ops draw) U s Q :=
  Tri.region' hints ms kf km p.P s' U' h hd hU p.h hq
def roundP (B : Bs) (E : Env) (c : Code) (Q : Post) : Nat → Post
  | 0, .normal, _, _ => False
  | n + 1, .normal, U, s => Tri B E c U s (roundP B E c Q n)
  | _, e, U, s => Q e U s
class Ends (Q : Post) (Q' : outParam Post) : Prop where
  h : ∀ U s, Q' .ret U s → Q .ret U s
instance {P : Program} {rs : List ResultVar} {m : Nat} {r : Ret} : Ends (endP P rs m r) (endP P rs m r) := ⟨fun _ _ h => h⟩
instance {c : Code} {Q' : Post} [Ends Q Q'] : Ends (thenP B E c Q) Q' := ⟨fun U s h => Ends.h (Q := Q) U s h⟩
instance {id : Nat} {Q' : Post} [Ends Q Q'] : Ends (blkP id Q) Q' := ⟨fun U s h => Ends.h (Q := Q) U s h⟩
instance {U0 n k : Nat} {st' : St} {J' : Prop} {Q' : Post} [Ends Q Q'] : Ends (countP U0 n k st' J' Q) Q' := ⟨fun U s h => Ends.h (Q := Q) U s h⟩
instance {Um : Nat} {m : St} {Q' : Post} [Ends Q Q'] : Ends (joinP Um m Q) Q' := ⟨fun U s h => Ends.h (Q := Q) U s h⟩
instance {U0 t33 g : Nat} {s0 : St} {J : Prop} {Q' : Post} [Ends Q Q'] : Ends (iterP U0 t33 g s0 J Q) Q' := ⟨fun U s h => Ends.h (Q := Q) U s h⟩
instance {c : Code} {n : Nat} {Q' : Post} [Ends Q Q'] : Ends (roundP B E c Q n) Q' := ⟨fun U s h => by cases n <;> exact Ends.h (Q := Q) U s h⟩
instance {Q' : Post} [Ends Q Q'] : Ends (subP Q) Q' := ⟨fun U s h => subP_done (Ends.h (Q := Q) U s h)⟩
theorem rt {Q' : Post} [Ends Q Q'] (h : Q' .ret U s) : Q .ret U s := Ends.h (Q := Q) U s h
theorem er {P : Program} {rs : List ResultVar} {m : Nat} {r : Ret} (ns : Ren) (p : PP) (h1 : (renOk ns r.bs.length && ren16 ns m) = true := by kernel_rfl) (h3 : finish P rs ns r.bs.length s = some (p.P, r) := by kernel_rfl) : endP P rs m r .ret U s := endP.ret ns p.P h1 h3 p.h
theorem en {P : Program} {rs : List ResultVar} {m : Nat} {r : Ret} (ns : Ren) (p : PP) (h1 : (renOk ns r.bs.length && ren16 ns m) = true := by kernel_rfl) (h3 : finish P rs ns r.bs.length s = some (p.P, r) := by kernel_rfl) : endP P rs m r .normal U s := endP.nret ns p.P h1 h3 p.h
theorem sn {U' : Nat} (ns : Ren) (kf : List Nat) {s'' : St} (s' : St) (h3 : s' = s'' := by simp only [sel_true, sel_false]) (h : (renOk ns U' && ren16 ns 16 && Nat.ble 16 U') = true := by kernel_rfl) (hs : renSt ns kf s = some s' := by kernel_rfl) : Sub U s U' s'' :=
  (Sub.ren h hs).trans (Sub.of_eq h3)
theorem sp {U' : Nat} (ns : Ren) (kf : List Nat) {s' : St} (h : (renOk ns U' && ren16 ns 16 && Nat.ble 16 U') = true := by kernel_rfl) (hs : renSt ns kf s = some s' := by kernel_rfl) : Sub U s U' s' := Sub.ren h hs
end Go.Vm
namespace Go.Proofs
open Go.Shelf
def Tryd.lays156_ren : Go.Shelf.Ren := ⟨fun | 156 => 66 | 165 => 78 | 166 => 79 | 169 => 80 | 240 => 83 | 241 => 84 | 276 => 88 | 277 => 89 | n => n, fun | 31 => 22 | 9 => 9 | 3 => 3 | 4 => 4 | 0 => 0 | 20 => 20 | 72 => 110 | 76 => 114 | 70 => 108 | 37 => 24 | 75 => 113 | 127 => 118 | 164 => 121 | 5 => 5 | 80 => 85 | n => n, fun | n => n⟩
theorem Tryd.lays156 : Go.Proofs.Lays.n156 Tryd.prog Tryd.lays156_ren := {
  mixed := by kernel_rfl
  f156 := Tryd.func66.trans (congrArg some (by kernel_rfl))
  f165 := Tryd.func78.trans (congrArg some (by kernel_rfl))
  f166 := Tryd.func79.trans (congrArg some (by kernel_rfl))
  f169 := Tryd.func80.trans (congrArg some (by kernel_rfl))
  f240 := Tryd.func83.trans (congrArg some (by kernel_rfl))
  f241 := Tryd.func84.trans (congrArg some (by kernel_rfl))
  f276 := Tryd.func88.trans (congrArg some (by kernel_rfl))
  f277 := Tryd.func89.trans (congrArg some (by kernel_rfl))
  t0 := Tryd.underlying0
  a0 := Tryd.isAgg0
  z0 := Tryd.sizeOf0
  v0 := Tryd.zeroValue0
  t3 := Tryd.underlying3
  a3 := Tryd.isAgg3
  z3 := Tryd.sizeOf3
  v3 := Tryd.zeroValue3
  t4 := Tryd.underlying4
  a4 := Tryd.isAgg4
  z4 := Tryd.sizeOf4
  v4 := Tryd.zeroValue4
  t9 := Tryd.underlying9
  a9 := Tryd.isAgg9
  z9 := Tryd.sizeOf9
  v9 := Tryd.zeroValue9
  t20 := Tryd.underlying20
  a20 := Tryd.isAgg20
  z20 := Tryd.sizeOf20
  v20 := Tryd.zeroValue20
  t31 := Tryd.underlying22
  a31 := Tryd.isAgg22
  z31 := Tryd.sizeOf22
  v31 := Tryd.zeroValue22
  t37 := Tryd.underlying24
  a37 := Tryd.isAgg24
  z37 := Tryd.sizeOf24
  v37 := Tryd.zeroValue24
  t70 := Tryd.underlying108
  a70 := Tryd.isAgg108
  z70 := Tryd.sizeOf108
  v70 := Tryd.zeroValue108
  t72 := Tryd.underlying110
  a72 := Tryd.isAgg110
  z72 := Tryd.sizeOf110
  v72 := Tryd.zeroValue110
  t75 := Tryd.underlying113
  a75 := Tryd.isAgg113
  z75 := Tryd.sizeOf113
  v75 := Tryd.zeroValue113
  t76 := Tryd.underlying114
  a76 := Tryd.isAgg114
  z76 := Tryd.sizeOf114
  v76 := Tryd.zeroValue114
  t127 := Tryd.underlying118
  a127 := Tryd.isAgg118
  z127 := Tryd.sizeOf118
  v127 := Tryd.zeroValue118
  t164 := Tryd.underlying121
  a164 := Tryd.isAgg121
  z164 := Tryd.sizeOf121
  v164 := Tryd.zeroValue121 }
theorem Tryd.Builder_Extra_156 : Builder.Extra Tryd.prog Tryd.lays156_ren := {
  sizeBuilder := by kernel_rfl
  liesBuilder := by kernel_rfl
  t5 := Tryd.underlying5
  a5 := Tryd.isAgg5
  z5 := Tryd.sizeOf5
  v5 := Tryd.zeroValue5
  infoByte := by kernel_rfl
  cellsByte := by kernel_rfl
  sizeByte := by kernel_rfl
  neB5 := by decide }
open Go.RowKit in
theorem Tryd.strings_Join_none (a : Option Addr) (c : Nat) (sep : ByteArray) (w : World) :
    Calls Tryd.prog 66 #[.slice a 0 c, .string sep] w fun e w' => e = .returned (.string ⟨#[]⟩) ∧ w' = w := Any.strings_Join_none Tryd.lays156 Tryd.Builder_Extra_156 a c sep w
open Go.RowKit in
theorem Tryd.strings_Join (bk o c : Nat) (xs : List ByteArray) (sep : ByteArray) (w : World) (hcells : ∀ (j : Nat) x, xs[j]? = some x → w.cell? ⟨bk, o + j, none⟩ = some (.string x)) (hbk : bk < w.heap.size) (hN : xs.length ≤ 140737488355328) (hcap : xs.length ≤ c) (hlen : (Lib.join (xs.map (·.data.toList)) sep.data.toList).length ≤ 140737488355328) :
    Calls Tryd.prog 66 #[.slice (some ⟨bk, o, none⟩) xs.length c, .string sep] w fun e w' => e = .returned (.string ⟨(Lib.join (xs.map (·.data.toList)) sep.data.toList).toArray⟩) ∧ Below w.heap.size w w' := Any.strings_Join Tryd.lays156 Tryd.Builder_Extra_156 bk o c xs sep w hcells hbk hN hcap hlen
end Go.Proofs
set_option linter.unusedVariables false
set_option linter.unusedSimpArgs false
set_option maxRecDepth 4000
set_option maxHeartbeats 2000000
namespace Go.Vm
open Go
theorem mixed : Go.Proofs.Tryd.prog.follows .mixedOrders = true := by kernel_rfl
def gStarts : List Int := [7640891576956012808, 13503953896175478587, 4354685564936845355, 11912009170470909681, 5840696475078001361, 11170449401992604703, 2270897969802886507, 6620516959819538809]
def gSteps : List Int := [4794697086780616226, 8158064640168781261, 13096744586834688815, 16840607885511220156, 4131703408338449720, 6480981068601479193, 10538285296894168987, 12329834152419229976, 15566598209576043074, 1334009975649890238, 2608012711638119052, 6128411473006802146, 8268148722764581231, 9286055187155687089, 11230858885718282805, 13951009754708518548, 16472876342353939154, 17275323862435702243, 1135362057144423861, 2597628984639134821, 3308224258029322869, 5365058923640841347, 6679025012923562964, 8573033837759648693, 10970295158949994411, 12119686244451234320, 12683024718118986047, 13788192230050041572, 14330467153632333762, 15395433587784984357, 489312712824947311, 1452737877330783856, 2861767655752347644, 3322285676063803686, 5560940570517711597, 5996557281743188959, 7280758554555802590, 8532644243296465576, 9350256976987008742, 10552545826968843579, 11727347734174303076, 12113106623233404929, 14000437183269869457, 14369950271660146224, 15101387698204529176, 15463397548674623760, 17586052441742319658, 1182934255886127544, 1847814050463011016, 2177327727835720531, 2830643537854262169, 3796741975233480872, 4115178125766777443, 5681478168544905931, 6601373596472566643, 7507060721942968483, 8399075790359081724, 8693463985226723168, 9568029438360202098, 10144078919501101548, 10430055236837252648, 11840083180663258601, 13761210420658862357, 14299343276471374635, 14566680578165727644, 15097957966210449927, 16922976911328602910, 17689382322260857208, 500013540394364858, 748580250866718886, 1242879168328830382, 1977374033974150939, 2944078676154940804, 3659926193048069267, 4368137639120453308, 4836135668995329356, 5532061633213252278, 6448918945643986474, 6902733635092675308, 7801388544844847127]
noncomputable def gD : Globs := fun g => bif Nat.beq g 0 then some (.u64, gStarts) else bif Nat.beq g 1 then some (.u64, gSteps) else none
theorem Kjoin : Known Go.Proofs.Tryd.prog gD 66 ⟨0, 0, specJoin⟩ := known_join (by kernel_rfl) Go.Proofs.Tryd.strings_Join_none Go.Proofs.Tryd.strings_Join
theorem Kidx : Known Go.Proofs.Tryd.prog gD 99 ⟨0, 0, specIdx⟩ := known_idx (fn := Go.Proofs.Tryd.f99) (by kernel_rfl) (by kernel_rfl) (by kernel_rfl) (by kernel_rfl) (by kernel_rfl)
theorem Kcnt : Known Go.Proofs.Tryd.prog gD 92 ⟨0, 0, specCnt⟩ := known_cnt (fn := Go.Proofs.Tryd.f92) (by kernel_rfl) (by kernel_rfl) (by kernel_rfl) (by kernel_rfl) (by kernel_rfl)
noncomputable def F50 (p0 : Int) (p1 : Int) : Int :=
  (iOr .u32 (iShl .u32 p0 (iAnd .u64 (IntKind.wrap .u64 p1) 31)) (iShr .u32 p0 (iSub .u64 32 (iAnd .u64 (IntKind.wrap .u64 p1) 31))))
noncomputable def S50 : List AV → List Blk → Option (Prop × Ret)
  | [.sc (.i .u32 p0), .sc (.i .i64 p1)], [] => some (True, ⟨.sc (.i .u32 (F50 p0 p1)), []⟩)
  | _, _ => none
noncomputable def B50 : Bs := { P := Go.Proofs.Tryd.prog, G := gD, tab := tabOf [], n := 17 }
theorem B50.ok : B50.Ok := ⟨tabOk (P := Go.Proofs.Tryd.prog) (G := gD) (l := []) True.intro, mixed⟩
theorem K50 : Known Go.Proofs.Tryd.prog gD 74 ⟨0, 0, S50⟩ := by
 refine Known.walk (B := B50) (fn := Go.Proofs.Tryd.f74) B50.ok (by kernel_rfl) rfl (by kernel_rfl) (by kernel_rfl) (by decide) (by decide) ?_
 intro E args ks C r h hC hlen
 simp only at h
 unfold S50 at h
 split at h
 rotate_left
 cases h
 rename_i p0 p1
 cases h
 simp only [lens] at hlen
 refine ⟨show 2 ≤ 17 from by decide, ?_⟩
 refine Tri.sub (Sub.of_eq (show _ = ([(0, .sc (.i .u32 p0)), (1, .sc (.i .i64 p1))], []) from rfl)) ?_
 refine sq [] none [0, 1] [] ([(0, .sc (.i .u32 p0)), (1, .sc (.i .i64 p1))], []) 32 (t1 pT) ?_
 refine sq [] none [5, 0] [] ([(5, .sc (.i .u64 (iAnd .u64 (IntKind.wrap .u64 p1) 31))), (0, .sc (.i .u32 p0))], []) 96 (t4 pT) ?_
 refine sq [] none [4] [] ([(4, .sc (.i .u32 (iOr .u32 (iShl .u32 p0 (iAnd .u64 (IntKind.wrap .u64 p1) 31)) (iShr .u32 p0 (iSub .u64 32 (iAnd .u64 (IntKind.wrap .u64 p1) 31))))))], []) 240 (t2 (pu (lo ((0 : Int) ≤ (iAnd .u64 (IntKind.wrap .u64 p1) 31))) (t3 (pu (li ((0 : Int) ≤ (iSub .u64 32 (iAnd .u64 (IntKind.wrap .u64 p1) 31)))) (t2 pT))))) ?_
 refine Tri.ret ?_
 refine rt ?_
 exact er [] pz
noncomputable def F49w64l0 (k0 : Nat) (z0 : Nat × List Int) : Nat × List Int :=
  (z0.1 + 1, z0.2 ++ [0])
noncomputable def F49w64l1 (p0 : List Int) (k1 : Nat) (z1 : Nat × List Int) : Nat × List Int :=
  (z1.1 + 1, z1.2 ++ [(IntKind.wrap .u8 (iShr .u64 (iMul .u64 (IntKind.wrap .u64 ((p0.length : Nat) : Int)) 8) ((8 * (8 - 1 - k1) : Nat) : Int)))])
noncomputable def F49w64 (p0 : List Int) : List Int :=
  (itr (F49w64l1 p0) 8 (((itr (F49w64l0) ((119 - p0.length % 64) % 64) (p0.length + 1, p0 ++ [128])).1) + 0, ((itr (F49w64l0) ((119 - p0.length % 64) % 64) (p0.length + 1, p0 ++ [128])).2) ++ (List.replicate 0 0))).2
noncomputable def F49w64n0 (p0 : List Int) : Nat :=
  (itr (F49w64l1 p0) 8 (((itr (F49w64l0) ((119 - p0.length % 64) % 64) (p0.length + 1, p0 ++ [128])).1) + 0, ((itr (F49w64l0) ((119 - p0.length % 64) % 64) (p0.length + 1, p0 ++ [128])).2) ++ (List.replicate 0 0))).1
noncomputable def S49w64 : List AV → List Blk → Option (Prop × Ret)
  | [.sc (.ro .u8 p0), .sc (.i .i64 p1)], [] => some ((((64 : Int) = p1) ∧ (p0.length ≤ 1000000000)), ⟨.sc (.sl 0 0 (F49w64n0 p0) 1 none), [some (.ints .u8 (F49w64n0 p0) (F49w64 p0))]⟩)
  | _, _ => none
noncomputable def B49w64 : Bs := { P := Go.Proofs.Tryd.prog, G := gD, tab := tabOf [], n := 44 }
theorem B49w64.ok : B49w64.Ok := ⟨tabOk (P := Go.Proofs.Tryd.prog) (G := gD) (l := []) True.intro, mixed⟩
theorem K49w64 : Known Go.Proofs.Tryd.prog gD 73 ⟨0, 1, S49w64⟩ := by
 refine Known.walk (B := B49w64) (fn := Go.Proofs.Tryd.f73) B49w64.ok (by kernel_rfl) rfl (by kernel_rfl) (by kernel_rfl) (by decide) (by decide) ?_
 intro E args ks C r h hC hlen
 simp only at h
 unfold S49w64 at h
 split at h
 rotate_left
 cases h
 rename_i p0 p1
 cases h
 simp only [lens] at hlen
 obtain ⟨hEp1, hC⟩ := hC
 subst hEp1
 refine ⟨show 2 ≤ 44 from by decide, ?_⟩
 refine Tri.sub (Sub.of_eq (show _ = ([(0, .sc (.ro .u8 p0)), (1, .sc (.i .i64 64))], []) from rfl)) ?_
 refine sq [] none [0, 1] [] ([(0, .sc (.ro .u8 p0)), (1, .sc (.i .i64 64))], []) 32 (t1 pT) ?_
 refine sq [] none [5, 0, 1] [80] ([(5, .sc (.sl 80 0 (p0.length + 1) 1 none)), (0, .sc (.ro .u8 p0)), (1, .sc (.i .i64 64))], [(80, .ints .u8 (p0.length + 1) (p0 ++ [128]))]) 112 (t1 (pu (pa (pa (pa pT (lr (1 = 1))) (pa (lo (0 < 1)) (pa (lo (p0.length * 1 ≤ 140737488355328)) (lo (p0.length ≤ 140737488355328))))) (lo (p0.length = p0.length * 1))) (pu (pa (pa (pa (lo (0 < 1)) (lr (1 = 1))) pT) (pa (lo (1 * 1 ≤ 16777216)) (lr (1 = 1)))) (pu (pa (pa (pa (pa (lo (0 + 1 ≤ 1)) (lr (1 = 1))) (pa (lo (0 < 1)) (pa (lo ((p0.length + 1) * 1 ≤ 140737488355328)) (lo (p0.length + 1 ≤ 140737488355328))))) (lo (1 = 1 * 1))) (pa (lr (1 = 1)) (lo (0 + p0.length * 1 = p0.length)))) (t1 pT))))) ?_
 refine Tri.seq ?_
 refine Tri.block ?_
 refine Tri.count 112 ((119 - p0.length % 64) % 64) (F49w64l0) (p0.length + 1, p0 ++ [128]) (fun k0 z0 => z0.1 = (p0.length + 1) + 1 * k0) (fun k0 z0 => ([(5, .sc (.sl 80 0 z0.1 1 none)), (0, .sc (.ro .u8 p0)), (1, .sc (.i .i64 64))], [(80, .ints .u8 z0.1 z0.2)])) (by simp) (Sub.of_eq (by kernel_rfl)) ?_
 intro k0 z0 hk0 hz0 hJ0
 refine Tri.seq ?_
 refine sq [(14, qi ((z0.1 % 64 : Nat) : Int))] none [19, 5, 0, 1] [80] ([(19, .sc (.b ((((z0.1 % 64 : Nat) : Int) : Int) != 56))), (5, .sc (.sl 80 0 z0.1 1 none)), (0, .sc (.ro .u8 p0)), (1, .sc (.i .i64 64))], [(80, .ints .u8 z0.1 z0.2)]) 256 (t3 (pv (lo (64 ≠ (0 : Int))) (pl (show (iRem ((z0.1 : Nat) : Int) 64) = ((z0.1 % 64 : Nat) : Int) from iRem_nat (a := z0.1) (b := 64))) (t2 (pu (lo (8 ≠ (0 : Int))) (t2 pT))))) ?_
 refine Tri.cond (x := ((((z0.1 % 64 : Nat) : Int) : Int) != 56)) (by kernel_rfl) (fun h1 => ?_) (fun h1 => ?_)
 have h1' := ne_true_i h1
 refine Tri.skip ?_
 change Tri _ _ _ _ _ _
 refine Tri.block ?_
 refine rq [] none [5, 0, 1] [288] ([(5, .sc (.sl 288 0 (z0.1 + 1) 1 none)), (0, .sc (.ro .u8 p0)), (1, .sc (.i .i64 64))], [(288, .ints .u8 (z0.1 + 1) (z0.2 ++ [0]))]) 320 (t1 (pu (pa (pa (pa (lo (0 < 1)) (lr (1 = 1))) pT) (pa (lo (1 * 1 ≤ 16777216)) (lr (1 = 1)))) (pu (pa (pa (pa (pa (lo (0 + 1 ≤ 1)) (lr (1 = 1))) (pa (lo (0 < 1)) (pa (lo ((z0.1 + 1) * 1 ≤ 140737488355328)) (lo (z0.1 + 1 ≤ 140737488355328))))) (lo (1 = 1 * 1))) (pa (lr (1 = 1)) (lo (0 + z0.1 * 1 = z0.1)))) (t1 pT)))) ?_
 repeat (refine blkP_normal ?_)
 refine countP_normal (by have h9 := ne_true_i h1; omega) (show z0.1 + 1 = (p0.length + 1) + 1 * (k0 + 1) by omega) ?_
 exact sp [(288, 80)] [5, 0, 1]
 have h1' := ne_false_i h1
 refine Tri.exit ?_
 have hend0 : k0 = ((119 - p0.length % 64) % 64) := by (have h9 := ne_false_i h1; omega)
 subst hend0; subst hz0
 change Tri _ _ _ _ _ _
 refine sq [] none [5, 0] [320] ([(5, .sc (.sl 320 0 (((itr (F49w64l0) ((119 - p0.length % 64) % 64) (p0.length + 1, p0 ++ [128])).1) + 0) 1 none)), (0, .sc (.ro .u8 p0))], [(320, .ints .u8 (((itr (F49w64l0) ((119 - p0.length % 64) % 64) (p0.length + 1, p0 ++ [128])).1) + 0) (((itr (F49w64l0) ((119 - p0.length % 64) % 64) (p0.length + 1, p0 ++ [128])).2) ++ (List.replicate 0 0)))]) 352 (t2 (pu (lo (8 ≠ (0 : Int))) (t1 (pu (pa (pa (pa (pa (pa (pa (lo ((0 : Int) ≤ 0)) (lo (0 ≤ (140737488355328 : Int)))) (lo (((1 : Nat) : Int) * 0 ≤ 281474976710656))) (lr (1 = 1))) (pa (lo (0 < 1)) (pa (lo ((((itr (F49w64l0) ((119 - p0.length % 64) % 64) (p0.length + 1, p0 ++ [128])).1) + 0) * 1 ≤ 140737488355328)) (lo (((itr (F49w64l0) ((119 - p0.length % 64) % 64) (p0.length + 1, p0 ++ [128])).1) + 0 ≤ 140737488355328))))) (lo (0 = 0 * 1))) (pa (lr (1 = 1)) (lo (0 + ((itr (F49w64l0) ((119 - p0.length % 64) % 64) (p0.length + 1, p0 ++ [128])).1) * 1 = (itr (F49w64l0) ((119 - p0.length % 64) % 64) (p0.length + 1, p0 ++ [128])).1)))) (t1 pT))))) ?_
 refine Tri.seq ?_
 refine sq [] none [6, 5, 0] [320] ([(6, .sc (.i .i64 7)), (5, .sc (.sl 320 0 (((itr (F49w64l0) ((119 - p0.length % 64) % 64) (p0.length + 1, p0 ++ [128])).1) + 0) 1 none)), (0, .sc (.ro .u8 p0))], [(320, .ints .u8 (((itr (F49w64l0) ((119 - p0.length % 64) % 64) (p0.length + 1, p0 ++ [128])).1) + 0) (((itr (F49w64l0) ((119 - p0.length % 64) % 64) (p0.length + 1, p0 ++ [128])).2) ++ (List.replicate 0 0)))]) 368 (t1 pT) ?_
 refine Tri.block ?_
 refine Tri.count 368 8 (F49w64l1 p0) (((itr (F49w64l0) ((119 - p0.length % 64) % 64) (p0.length + 1, p0 ++ [128])).1) + 0, ((itr (F49w64l0) ((119 - p0.length % 64) % 64) (p0.length + 1, p0 ++ [128])).2) ++ (List.replicate 0 0)) (fun k1 z1 => z1.1 = (((itr (F49w64l0) ((119 - p0.length % 64) % 64) (p0.length + 1, p0 ++ [128])).1) + 0) + 1 * k1) (fun k1 z1 => ([(6, .sc (.i .i64 (((8 : Nat) : Int) - 1 - ((k1 : Nat) : Int)))), (5, .sc (.sl 320 0 z1.1 1 none)), (0, .sc (.ro .u8 p0))], [(320, .ints .u8 z1.1 z1.2)])) (by simp) (Sub.of_eq (by kernel_rfl)) ?_
 intro k1 z1 hk1 hz1 hJ1
 refine Tri.seq ?_
 refine sq [] none [29, 6, 5, 0] [320] ([(29, .sc (.b (decide (((((8 : Nat) : Int) - 1 - ((k1 : Nat) : Int)) : Int) ≥ 0)))), (6, .sc (.i .i64 (((8 : Nat) : Int) - 1 - ((k1 : Nat) : Int)))), (5, .sc (.sl 320 0 z1.1 1 none)), (0, .sc (.ro .u8 p0))], [(320, .ints .u8 z1.1 z1.2)]) 400 (t2 pT) ?_
 refine Tri.cond (x := (decide (((((8 : Nat) : Int) - 1 - ((k1 : Nat) : Int)) : Int) ≥ 0))) (by kernel_rfl) (fun h2 => ?_) (fun h2 => ?_)
 have h2' := of_decide_eq_true h2
 refine Tri.skip ?_
 change Tri _ _ _ _ _ _
 refine Tri.seq ?_
 refine Tri.block ?_
 refine rq [(38, qi ((8 * (8 - 1 - k1) : Nat) : Int))] none [5, 6, 0] [560] ([(5, .sc (.sl 560 0 (z1.1 + 1) 1 none)), (6, .sc (.i .i64 (((8 : Nat) : Int) - 1 - ((k1 : Nat) : Int)))), (0, .sc (.ro .u8 p0))], [(560, .ints .u8 (z1.1 + 1) (z1.2 ++ [(IntKind.wrap .u8 (iShr .u64 (iMul .u64 (IntKind.wrap .u64 ((p0.length : Nat) : Int)) 8) ((8 * (8 - 1 - k1) : Nat) : Int)))]))]) 592 (t6 (pv pT (pl (show (iMul .i64 8 (((8 : Nat) : Int) - 1 - ((k1 : Nat) : Int))) = ((8 * (8 - 1 - k1) : Nat) : Int) from by rw [dn_nat (by omega)]; exact iMul_nat (a := 8) (b := 8 - 1 - k1) (by omega))) (pu (lo ((0 : Int) ≤ ((8 * (8 - 1 - k1) : Nat) : Int))) (t1 (pu (pa (pa (pa (lo (0 < 1)) (lr (1 = 1))) pT) (pa (lo (1 * 1 ≤ 16777216)) (lr (1 = 1)))) (pu (pa (pa (pa (pa (lo (0 + 1 ≤ 1)) (lr (1 = 1))) (pa (lo (0 < 1)) (pa (lo ((z1.1 + 1) * 1 ≤ 140737488355328)) (lo (z1.1 + 1 ≤ 140737488355328))))) (lo (1 = 1 * 1))) (pa (lr (1 = 1)) (lo (0 + z1.1 * 1 = z1.1)))) (t1 pT))))))) ?_
 change Tri _ _ _ _ _ _
 refine rq [(31, qi (((8 : Nat) : Int) - 1 - ((k1 + 1 : Nat) : Int)))] none [6, 5, 0] [560] ([(6, .sc (.i .i64 (((8 : Nat) : Int) - 1 - ((k1 + 1 : Nat) : Int)))), (5, .sc (.sl 560 0 (z1.1 + 1) 1 none)), (0, .sc (.ro .u8 p0))], [(560, .ints .u8 (z1.1 + 1) (z1.2 ++ [(IntKind.wrap .u8 (iShr .u64 (iMul .u64 (IntKind.wrap .u64 ((p0.length : Nat) : Int)) 8) ((8 * (8 - 1 - k1) : Nat) : Int)))]))]) 640 (t1 (pv pT (pl (show (iSub .i64 (((8 : Nat) : Int) - 1 - ((k1 : Nat) : Int)) 1) = (((8 : Nat) : Int) - 1 - ((k1 + 1 : Nat) : Int)) from iSub_dn (by omega) (by omega))) (t1 pT))) ?_
 repeat (refine blkP_normal ?_)
 refine countP_normal (by omega) (show z1.1 + 1 = (((itr (F49w64l0) ((119 - p0.length % 64) % 64) (p0.length + 1, p0 ++ [128])).1) + 0) + 1 * (k1 + 1) by omega) ?_
 exact sp [(560, 320)] [6, 5, 0]
 have h2' := of_decide_eq_false h2
 refine Tri.exit ?_
 have hend1 : k1 = 8 := by (have := of_decide_eq_false h2; omega)
 subst hend1; subst hz1
 change Tri _ _ _ _ _ _
 refine sq [] none [4] [320] ([(4, .sc (.sl 320 0 ((itr (F49w64l1 p0) 8 (((itr (F49w64l0) ((119 - p0.length % 64) % 64) (p0.length + 1, p0 ++ [128])).1) + 0, ((itr (F49w64l0) ((119 - p0.length % 64) % 64) (p0.length + 1, p0 ++ [128])).2) ++ (List.replicate 0 0))).1) 1 none))], [(320, .ints .u8 ((itr (F49w64l1 p0) 8 (((itr (F49w64l0) ((119 - p0.length % 64) % 64) (p0.length + 1, p0 ++ [128])).1) + 0, ((itr (F49w64l0) ((119 - p0.length % 64) % 64) (p0.length + 1, p0 ++ [128])).2) ++ (List.replicate 0 0))).1) ((itr (F49w64l1 p0) 8 (((itr (F49w64l0) ((119 - p0.length % 64) % 64) (p0.length + 1, p0 ++ [128])).1) + 0, ((itr (F49w64l0) ((119 - p0.length % 64) % 64) (p0.length + 1, p0 ++ [128])).2) ++ (List.replicate 0 0))).2))]) 432 (t2 pT) ?_
 refine Tri.ret ?_
 refine rt ?_
 exact er [(320, 0)] pz
theorem n49w64 (p0 : List Int) : F49w64n0 p0 = p0.length + 9 + (119 - p0.length % 64) % 64 + 0 := by
  have h0 : ∀ (k : Nat) (z : Nat × List Int), (itr F49w64l0 k z).1 = z.1 + k := by
    intro k z
    induction k with
    | zero => rw [itr_zero]; rfl
    | succ k ih => rw [itr_succ]; show (itr F49w64l0 k z).1 + 1 = _; rw [ih]; omega
  have h1 : ∀ (k : Nat) (z : Nat × List Int), (itr (F49w64l1 p0) k z).1 = z.1 + k := by
    intro k z
    induction k with
    | zero => rw [itr_zero]; rfl
    | succ k ih => rw [itr_succ]; show (itr (F49w64l1 p0) k z).1 + 1 = _; rw [ih]; omega
  unfold F49w64n0
  rw [h1, h0]
  omega
noncomputable def F34l0 (k0 : Nat) (z0 : List Int) : List Int :=
  z0.set k0 (IntKind.wrap .u32 (iShr .u64 (gStarts.getD (0 + k0) 0) 32))
noncomputable def F34l2 (p0 : List Int) (k1 : Nat) (k2 : Nat) (z2 : List Int) : List Int :=
  z2.set (k2 / 4) (iOr .u32 (iShl .u32 (z2.getD (k2 / 4) 0) 8) (IntKind.wrap .u32 ((F49w64 p0).getD (adr (0 + (64 * k1)) k2 1) 0)))
noncomputable def F34l3 (k3 : Nat) (z3 : List Int) : List Int :=
  z3.set (k3 + 16) (iAdd .u32 (iAdd .u32 (iAdd .u32 (z3.getD ((k3 + 16) - 16) 0) (z3.getD ((k3 + 16) - 7) 0)) (iXor .u32 (iXor .u32 (F50 (z3.getD ((k3 + 16) - 15) 0) 25) (F50 (z3.getD ((k3 + 16) - 15) 0) 14)) (iShr .u32 (z3.getD ((k3 + 16) - 15) 0) 3))) (iXor .u32 (iXor .u32 (F50 (z3.getD ((k3 + 16) - 2) 0) 15) (F50 (z3.getD ((k3 + 16) - 2) 0) 13)) (iShr .u32 (z3.getD ((k3 + 16) - 2) 0) 10)))
noncomputable def F34l4 (p0 : List Int) (k1 : Nat) (k4 : Nat) (z4 : Int × Int × Int × Int × Int × Int × Int × Int) : Int × Int × Int × Int × Int × Int × Int × Int :=
  (z4.2.1, z4.2.2.1, z4.2.2.2.1, (iAdd .u32 z4.2.2.2.2.1 (iAdd .u32 (iAdd .u32 (iAdd .u32 (iAdd .u32 z4.1 (iXor .u32 (iXor .u32 (F50 z4.2.2.2.1 26) (F50 z4.2.2.2.1 21)) (F50 z4.2.2.2.1 7))) (iXor .u32 (iAnd .u32 z4.2.2.2.1 z4.2.2.1) (iAnd .u32 (iNot .u32 z4.2.2.2.1) z4.2.1))) (IntKind.wrap .u32 (iShr .u64 (gSteps.getD (0 + k4) 0) 32))) ((itr (F34l3) 48 (itr (F34l2 p0 k1) 64 [0, 0, 0, 0, 0, 0, 0, 0, 0, 0, 0, 0, 0, 0, 0, 0, 0, 0, 0, 0, 0, 0, 0, 0, 0, 0, 0, 0, 0, 0, 0, 0, 0, 0, 0, 0, 0, 0, 0, 0, 0, 0, 0, 0, 0, 0, 0, 0, 0, 0, 0, 0, 0, 0, 0, 0, 0, 0, 0, 0, 0, 0, 0, 0])).getD k4 0))), z4.2.2.2.2.2.1, z4.2.2.2.2.2.2.1, z4.2.2.2.2.2.2.2, (iAdd .u32 (iAdd .u32 (iAdd .u32 (iAdd .u32 (iAdd .u32 z4.1 (iXor .u32 (iXor .u32 (F50 z4.2.2.2.1 26) (F50 z4.2.2.2.1 21)) (F50 z4.2.2.2.1 7))) (iXor .u32 (iAnd .u32 z4.2.2.2.1 z4.2.2.1) (iAnd .u32 (iNot .u32 z4.2.2.2.1) z4.2.1))) (IntKind.wrap .u32 (iShr .u64 (gSteps.getD (0 + k4) 0) 32))) ((itr (F34l3) 48 (itr (F34l2 p0 k1) 64 [0, 0, 0, 0, 0, 0, 0, 0, 0, 0, 0, 0, 0, 0, 0, 0, 0, 0, 0, 0, 0, 0, 0, 0, 0, 0, 0, 0, 0, 0, 0, 0, 0, 0, 0, 0, 0, 0, 0, 0, 0, 0, 0, 0, 0, 0, 0, 0, 0, 0, 0, 0, 0, 0, 0, 0, 0, 0, 0, 0, 0, 0, 0, 0])).getD k4 0)) (iAdd .u32 (iXor .u32 (iXor .u32 (F50 z4.2.2.2.2.2.2.2 30) (F50 z4.2.2.2.2.2.2.2 19)) (F50 z4.2.2.2.2.2.2.2 10)) (iXor .u32 (iXor .u32 (iAnd .u32 z4.2.2.2.2.2.2.2 z4.2.2.2.2.2.2.1) (iAnd .u32 z4.2.2.2.2.2.2.2 z4.2.2.2.2.2.1)) (iAnd .u32 z4.2.2.2.2.2.2.1 z4.2.2.2.2.2.1)))))
noncomputable def F34l5 (p0 : List Int) (k1 : Nat) (z1 : List Int) (k5 : Nat) (z5 : List Int) : List Int :=
  z5.set k5 (iAdd .u32 (z5.getD k5 0) ([(itr (F34l4 p0 k1) 64 (z1.getD 7 0, z1.getD 6 0, z1.getD 5 0, z1.getD 4 0, z1.getD 3 0, z1.getD 2 0, z1.getD 1 0, z1.getD 0 0)).2.2.2.2.2.2.2, (itr (F34l4 p0 k1) 64 (z1.getD 7 0, z1.getD 6 0, z1.getD 5 0, z1.getD 4 0, z1.getD 3 0, z1.getD 2 0, z1.getD 1 0, z1.getD 0 0)).2.2.2.2.2.2.1, (itr (F34l4 p0 k1) 64 (z1.getD 7 0, z1.getD 6 0, z1.getD 5 0, z1.getD 4 0, z1.getD 3 0, z1.getD 2 0, z1.getD 1 0, z1.getD 0 0)).2.2.2.2.2.1, (itr (F34l4 p0 k1) 64 (z1.getD 7 0, z1.getD 6 0, z1.getD 5 0, z1.getD 4 0, z1.getD 3 0, z1.getD 2 0, z1.getD 1 0, z1.getD 0 0)).2.2.2.2.1, (itr (F34l4 p0 k1) 64 (z1.getD 7 0, z1.getD 6 0, z1.getD 5 0, z1.getD 4 0, z1.getD 3 0, z1.getD 2 0, z1.getD 1 0, z1.getD 0 0)).2.2.2.1, (itr (F34l4 p0 k1) 64 (z1.getD 7 0, z1.getD 6 0, z1.getD 5 0, z1.getD 4 0, z1.getD 3 0, z1.getD 2 0, z1.getD 1 0, z1.getD 0 0)).2.2.1, (itr (F34l4 p0 k1) 64 (z1.getD 7 0, z1.getD 6 0, z1.getD 5 0, z1.getD 4 0, z1.getD 3 0, z1.getD 2 0, z1.getD 1 0, z1.getD 0 0)).2.1, (itr (F34l4 p0 k1) 64 (z1.getD 7 0, z1.getD 6 0, z1.getD 5 0, z1.getD 4 0, z1.getD 3 0, z1.getD 2 0, z1.getD 1 0, z1.getD 0 0)).1].getD k5 0))
noncomputable def F34l1 (p0 : List Int) (k1 : Nat) (z1 : List Int) : List Int :=
  (itr (F34l5 p0 k1 z1) 8 z1)
noncomputable def F34l6 (p0 : List Int) (k6 : Nat) (z6 : List Int) : List Int :=
  z6.set k6 (IntKind.wrap .u8 (iShr .u32 ((itr (F34l1 p0) ((F49w64n0 p0) / 64) (itr (F34l0) 8 [0, 0, 0, 0, 0, 0, 0, 0])).getD (k6 / 4) 0) ((24 - (8 * (k6 % 4)) : Nat) : Int)))
noncomputable def F34 (p0 : List Int) : List Int :=
  (itr (F34l6 p0) 32 [0, 0, 0, 0, 0, 0, 0, 0, 0, 0, 0, 0, 0, 0, 0, 0, 0, 0, 0, 0, 0, 0, 0, 0, 0, 0, 0, 0, 0, 0, 0, 0])
noncomputable def S34 : List AV → List Blk → Option (Prop × Ret)
  | [.sc (.ro .u8 p0)], [] => some ((p0.length ≤ 100000000), ⟨.ints .u8 32 (F34 p0), []⟩)
  | _, _ => none
noncomputable def B34 : Bs := { P := Go.Proofs.Tryd.prog, G := gD, tab := tabOf [⟨73, 96, [.ro .u8, .val], [], [], ⟨0, 1, S49w64⟩, false⟩, ⟨74, 608, [.val, .val], [], [], ⟨0, 0, S50⟩, false⟩, ⟨74, 640, [.val, .val], [], [], ⟨0, 0, S50⟩, false⟩, ⟨74, 752, [.val, .val], [], [], ⟨0, 0, S50⟩, false⟩, ⟨74, 784, [.val, .val], [], [], ⟨0, 0, S50⟩, false⟩, ⟨74, 832, [.val, .val], [], [], ⟨0, 0, S50⟩, false⟩, ⟨74, 1216, [.val, .val], [], [], ⟨0, 0, S50⟩, false⟩, ⟨74, 1248, [.val, .val], [], [], ⟨0, 0, S50⟩, false⟩, ⟨74, 1296, [.val, .val], [], [], ⟨0, 0, S50⟩, false⟩], n := 221 }
theorem B34.ok : B34.Ok := ⟨tabOk (P := Go.Proofs.Tryd.prog) (G := gD) (l := [⟨73, 96, [.ro .u8, .val], [], [], ⟨0, 1, S49w64⟩, false⟩, ⟨74, 608, [.val, .val], [], [], ⟨0, 0, S50⟩, false⟩, ⟨74, 640, [.val, .val], [], [], ⟨0, 0, S50⟩, false⟩, ⟨74, 752, [.val, .val], [], [], ⟨0, 0, S50⟩, false⟩, ⟨74, 784, [.val, .val], [], [], ⟨0, 0, S50⟩, false⟩, ⟨74, 832, [.val, .val], [], [], ⟨0, 0, S50⟩, false⟩, ⟨74, 1216, [.val, .val], [], [], ⟨0, 0, S50⟩, false⟩, ⟨74, 1248, [.val, .val], [], [], ⟨0, 0, S50⟩, false⟩, ⟨74, 1296, [.val, .val], [], [], ⟨0, 0, S50⟩, false⟩]) (And.intro K49w64 (And.intro K50 (And.intro K50 (And.intro K50 (And.intro K50 (And.intro K50 (And.intro K50 (And.intro K50 (And.intro K50 True.intro))))))))), mixed⟩
theorem K34 : Known Go.Proofs.Tryd.prog gD 60 ⟨0, 0, S34⟩ := by
 refine Known.walk (B := B34) (fn := Go.Proofs.Tryd.f60) B34.ok (by kernel_rfl) rfl (by kernel_rfl) (by kernel_rfl) (by decide) (by decide) ?_
 intro E args ks C r h hC hlen
 simp only at h
 unfold S34 at h
 split at h
 rotate_left
 cases h
 rename_i p0
 cases h
 simp only [lens] at hlen
 have hp := n49w64 p0
 have hg1 : gStarts.length = 8 := rfl
 have hg2 : gSteps.length = 80 := rfl
 refine ⟨show 1 ≤ 221 from by decide, ?_⟩
 refine Tri.sub (Sub.of_eq (show _ = ([(0, .sc (.ro .u8 p0))], []) from rfl)) ?_
 refine sq [] none [2, 0] [16] ([(2, .sc (.p 16 0)), (0, .sc (.ro .u8 p0))], [(16, .ints .u8 32 [0, 0, 0, 0, 0, 0, 0, 0, 0, 0, 0, 0, 0, 0, 0, 0, 0, 0, 0, 0, 0, 0, 0, 0, 0, 0, 0, 0, 0, 0, 0, 0])]) 32 (t1 pT) ?_
 refine sq [] none [3, 2, 0] [32, 16] ([(3, .sc (.p 32 0)), (2, .sc (.p 16 0)), (0, .sc (.ro .u8 p0))], [(32, .ints .u32 8 [0, 0, 0, 0, 0, 0, 0, 0]), (16, .ints .u8 32 [0, 0, 0, 0, 0, 0, 0, 0, 0, 0, 0, 0, 0, 0, 0, 0, 0, 0, 0, 0, 0, 0, 0, 0, 0, 0, 0, 0, 0, 0, 0, 0])]) 48 (t1 pT) ?_
 refine Tri.seq ?_
 refine sq [] none [26, 3, 2, 0] [32, 16] ([(26, .sc (.i .i64 0)), (3, .sc (.p 32 0)), (2, .sc (.p 16 0)), (0, .sc (.ro .u8 p0))], [(32, .ints .u32 8 [0, 0, 0, 0, 0, 0, 0, 0]), (16, .ints .u8 32 [0, 0, 0, 0, 0, 0, 0, 0, 0, 0, 0, 0, 0, 0, 0, 0, 0, 0, 0, 0, 0, 0, 0, 0, 0, 0, 0, 0, 0, 0, 0, 0])]) 64 (t1 pT) ?_
 refine Tri.block ?_
 refine Tri.count 64 8 (F34l0) [0, 0, 0, 0, 0, 0, 0, 0] (fun k0 z0 => True) (fun k0 z0 => ([(26, .sc (.i .i64 ((k0 : Nat) : Int))), (3, .sc (.p 32 0)), (2, .sc (.p 16 0)), (0, .sc (.ro .u8 p0))], [(32, .ints .u32 8 z0), (16, .ints .u8 32 [0, 0, 0, 0, 0, 0, 0, 0, 0, 0, 0, 0, 0, 0, 0, 0, 0, 0, 0, 0, 0, 0, 0, 0, 0, 0, 0, 0, 0, 0, 0, 0])])) trivial (Sub.of_eq (by kernel_rfl)) ?_
 intro k0 z0 hk0 hz0 hJ0
 refine sq [] none [27, 26, 3, 2, 0] [32, 16] ([(27, .sc (.b (decide ((((k0 : Nat) : Int) : Int) < 8)))), (26, .sc (.i .i64 ((k0 : Nat) : Int))), (3, .sc (.p 32 0)), (2, .sc (.p 16 0)), (0, .sc (.ro .u8 p0))], [(32, .ints .u32 8 z0), (16, .ints .u8 32 [0, 0, 0, 0, 0, 0, 0, 0, 0, 0, 0, 0, 0, 0, 0, 0, 0, 0, 0, 0, 0, 0, 0, 0, 0, 0, 0, 0, 0, 0, 0, 0])]) 80 (t1 pT) ?_
 refine Tri.seq ?_
 refine Tri.cond (x := (decide ((((k0 : Nat) : Int) : Int) < 8))) (by kernel_rfl) (fun h1 => ?_) (fun h1 => ?_)
 have h1' := of_decide_eq_true h1
 refine Tri.skip ?_
 change Tri _ _ _ _ _ _
 refine Tri.seq ?_
 refine Tri.block ?_
 refine sq [] none [4, 26, 3, 2, 0] [32, 16] ([(4, .sc (.i .i64 ((k0 : Nat) : Int))), (26, .sc (.i .i64 ((k0 : Nat) : Int))), (3, .sc (.p 32 0)), (2, .sc (.p 16 0)), (0, .sc (.ro .u8 p0))], [(32, .ints .u32 8 z0), (16, .ints .u8 32 [0, 0, 0, 0, 0, 0, 0, 0, 0, 0, 0, 0, 0, 0, 0, 0, 0, 0, 0, 0, 0, 0, 0, 0, 0, 0, 0, 0, 0, 0, 0, 0])]) 112 (t2 pT) ?_
 refine rq [] none [26, 3, 2, 0] [32, 16] ([(26, .sc (.i .i64 ((k0 : Nat) : Int))), (3, .sc (.p 32 0)), (2, .sc (.p 16 0)), (0, .sc (.ro .u8 p0))], [(32, .ints .u32 8 (z0.set k0 (IntKind.wrap .u32 (iShr .u64 (gStarts.getD (0 + k0) 0) 32)))), (16, .ints .u8 32 [0, 0, 0, 0, 0, 0, 0, 0, 0, 0, 0, 0, 0, 0, 0, 0, 0, 0, 0, 0, 0, 0, 0, 0, 0, 0, 0, 0, 0, 0, 0, 0])]) 240 (t2 (pu (lo ((0 : Int) ≤ ((k0 : Nat) : Int) ∧ ((k0 : Nat) : Int) < ((8 : Nat) : Int))) (pu (lo (0 + k0 < gStarts.length)) (pu (lo ((0 : Int) ≤ 32)) (t1 (pu (lo ((0 : Int) ≤ ((k0 : Nat) : Int) ∧ ((k0 : Nat) : Int) < ((8 : Nat) : Int))) (pu (pa (lo (k0 < 8)) (lr (1 = 1))) pT))))))) ?_
 change Tri _ _ _ _ _ _
 refine rq [(36, qi ((k0 + 1 : Nat) : Int))] none [26, 3, 2, 0] [32, 16] ([(26, .sc (.i .i64 ((k0 + 1 : Nat) : Int))), (3, .sc (.p 32 0)), (2, .sc (.p 16 0)), (0, .sc (.ro .u8 p0))], [(32, .ints .u32 8 (z0.set k0 (IntKind.wrap .u32 (iShr .u64 (gStarts.getD (0 + k0) 0) 32)))), (16, .ints .u8 32 [0, 0, 0, 0, 0, 0, 0, 0, 0, 0, 0, 0, 0, 0, 0, 0, 0, 0, 0, 0, 0, 0, 0, 0, 0, 0, 0, 0, 0, 0, 0, 0])]) 272 (pv pT (pl (show (iAdd .i64 ((k0 : Nat) : Int) 1) = ((k0 + 1 : Nat) : Int) from iAdd_nat (a := k0) (b := 1) (by omega))) (t1 pT)) ?_
 repeat (refine blkP_normal ?_)
 refine countP_normal (by omega) trivial ?_
 exact sp [(32, 32), (16, 16)] [26, 3, 2, 0]
 have h1' := of_decide_eq_false h1
 refine Tri.exit ?_
 have hend0 : k0 = 8 := by (have := of_decide_eq_false h1; omega)
 subst hend0; subst hz0
 change Tri _ _ _ _ _ _
 refine Tri.seq ?_
 refine sq [] none [5, 3, 2] [96, 32, 16] ([(5, .sc (.sl 96 0 (F49w64n0 p0) 1 none)), (3, .sc (.p 32 0)), (2, .sc (.p 16 0))], [(96, .ints .u8 (F49w64n0 p0) (F49w64 p0)), (32, .ints .u32 8 (itr (F34l0) 8 [0, 0, 0, 0, 0, 0, 0, 0])), (16, .ints .u8 32 [0, 0, 0, 0, 0, 0, 0, 0, 0, 0, 0, 0, 0, 0, 0, 0, 0, 0, 0, 0, 0, 0, 0, 0, 0, 0, 0, 0, 0, 0, 0, 0])]) 128 (t1 (pu (pa pz (pa (lr ((64 : Int) = (64 : Int))) (lo (p0.length ≤ 1000000000)))) (t1 pT))) ?_
 refine Tri.block ?_
 refine Tri.count 128 ((F49w64n0 p0) / 64) (F34l1 p0) (itr (F34l0) 8 [0, 0, 0, 0, 0, 0, 0, 0]) (fun k1 z1 => True) (fun k1 z1 => ([(5, .sc (.sl 96 (0 + (64 * k1)) ((F49w64n0 p0) - (64 * k1)) 1 none)), (3, .sc (.p 32 0)), (2, .sc (.p 16 0))], [(96, .ints .u8 (F49w64n0 p0) (F49w64 p0)), (32, .ints .u32 8 z1), (16, .ints .u8 32 [0, 0, 0, 0, 0, 0, 0, 0, 0, 0, 0, 0, 0, 0, 0, 0, 0, 0, 0, 0, 0, 0, 0, 0, 0, 0, 0, 0, 0, 0, 0, 0])])) trivial (Sub.of_eq (by kernel_rfl)) ?_
 intro k1 z1 hk1 hz1 hJ1
 refine Tri.seq ?_
 refine sq [] none [41, 5, 3, 2] [96, 32, 16] ([(41, .sc (.b (decide (((((F49w64n0 p0) - (64 * k1) : Nat) : Int) : Int) > 0)))), (5, .sc (.sl 96 (0 + (64 * k1)) ((F49w64n0 p0) - (64 * k1)) 1 none)), (3, .sc (.p 32 0)), (2, .sc (.p 16 0))], [(96, .ints .u8 (F49w64n0 p0) (F49w64 p0)), (32, .ints .u32 8 z1), (16, .ints .u8 32 [0, 0, 0, 0, 0, 0, 0, 0, 0, 0, 0, 0, 0, 0, 0, 0, 0, 0, 0, 0, 0, 0, 0, 0, 0, 0, 0, 0, 0, 0, 0, 0])]) 176 (t3 pT) ?_
 refine Tri.cond (x := (decide (((((F49w64n0 p0) - (64 * k1) : Nat) : Int) : Int) > 0))) (by kernel_rfl) (fun h2 => ?_) (fun h2 => ?_)
 have h2' := of_decide_eq_true h2
 refine Tri.skip ?_
 change Tri _ _ _ _ _ _
 refine Tri.seq ?_
 refine Tri.block ?_
 refine sq [] none [6, 5, 3, 2] [176, 96, 32, 16] ([(6, .sc (.p 176 0)), (5, .sc (.sl 96 (0 + (64 * k1)) ((F49w64n0 p0) - (64 * k1)) 1 none)), (3, .sc (.p 32 0)), (2, .sc (.p 16 0))], [(176, .ints .u32 64 [0, 0, 0, 0, 0, 0, 0, 0, 0, 0, 0, 0, 0, 0, 0, 0, 0, 0, 0, 0, 0, 0, 0, 0, 0, 0, 0, 0, 0, 0, 0, 0, 0, 0, 0, 0, 0, 0, 0, 0, 0, 0, 0, 0, 0, 0, 0, 0, 0, 0, 0, 0, 0, 0, 0, 0, 0, 0, 0, 0, 0, 0, 0, 0]), (96, .ints .u8 (F49w64n0 p0) (F49w64 p0)), (32, .ints .u32 8 z1), (16, .ints .u8 32 [0, 0, 0, 0, 0, 0, 0, 0, 0, 0, 0, 0, 0, 0, 0, 0, 0, 0, 0, 0, 0, 0, 0, 0, 0, 0, 0, 0, 0, 0, 0, 0])]) 192 (t1 pT) ?_
 refine Tri.seq ?_
 refine sq [] none [44, 6, 5, 3, 2] [176, 96, 32, 16] ([(44, .sc (.i .i64 0)), (6, .sc (.p 176 0)), (5, .sc (.sl 96 (0 + (64 * k1)) ((F49w64n0 p0) - (64 * k1)) 1 none)), (3, .sc (.p 32 0)), (2, .sc (.p 16 0))], [(176, .ints .u32 64 [0, 0, 0, 0, 0, 0, 0, 0, 0, 0, 0, 0, 0, 0, 0, 0, 0, 0, 0, 0, 0, 0, 0, 0, 0, 0, 0, 0, 0, 0, 0, 0, 0, 0, 0, 0, 0, 0, 0, 0, 0, 0, 0, 0, 0, 0, 0, 0, 0, 0, 0, 0, 0, 0, 0, 0, 0, 0, 0, 0, 0, 0, 0, 0]), (96, .ints .u8 (F49w64n0 p0) (F49w64 p0)), (32, .ints .u32 8 z1), (16, .ints .u8 32 [0, 0, 0, 0, 0, 0, 0, 0, 0, 0, 0, 0, 0, 0, 0, 0, 0, 0, 0, 0, 0, 0, 0, 0, 0, 0, 0, 0, 0, 0, 0, 0])]) 208 (t1 pT) ?_
 refine Tri.block ?_
 refine Tri.count 208 64 (F34l2 p0 k1) [0, 0, 0, 0, 0, 0, 0, 0, 0, 0, 0, 0, 0, 0, 0, 0, 0, 0, 0, 0, 0, 0, 0, 0, 0, 0, 0, 0, 0, 0, 0, 0, 0, 0, 0, 0, 0, 0, 0, 0, 0, 0, 0, 0, 0, 0, 0, 0, 0, 0, 0, 0, 0, 0, 0, 0, 0, 0, 0, 0, 0, 0, 0, 0] (fun k2 z2 => True) (fun k2 z2 => ([(44, .sc (.i .i64 ((k2 : Nat) : Int))), (6, .sc (.p 176 0)), (5, .sc (.sl 96 (0 + (64 * k1)) ((F49w64n0 p0) - (64 * k1)) 1 none)), (3, .sc (.p 32 0)), (2, .sc (.p 16 0))], [(176, .ints .u32 64 z2), (96, .ints .u8 (F49w64n0 p0) (F49w64 p0)), (32, .ints .u32 8 z1), (16, .ints .u8 32 [0, 0, 0, 0, 0, 0, 0, 0, 0, 0, 0, 0, 0, 0, 0, 0, 0, 0, 0, 0, 0, 0, 0, 0, 0, 0, 0, 0, 0, 0, 0, 0])])) trivial (Sub.of_eq (by kernel_rfl)) ?_
 intro k2 z2 hk2 hz2 hJ2
 refine sq [] none [45, 44, 6, 5, 3, 2] [176, 96, 32, 16] ([(45, .sc (.b (decide ((((k2 : Nat) : Int) : Int) < 64)))), (44, .sc (.i .i64 ((k2 : Nat) : Int))), (6, .sc (.p 176 0)), (5, .sc (.sl 96 (0 + (64 * k1)) ((F49w64n0 p0) - (64 * k1)) 1 none)), (3, .sc (.p 32 0)), (2, .sc (.p 16 0))], [(176, .ints .u32 64 z2), (96, .ints .u8 (F49w64n0 p0) (F49w64 p0)), (32, .ints .u32 8 z1), (16, .ints .u8 32 [0, 0, 0, 0, 0, 0, 0, 0, 0, 0, 0, 0, 0, 0, 0, 0, 0, 0, 0, 0, 0, 0, 0, 0, 0, 0, 0, 0, 0, 0, 0, 0])]) 224 (t1 pT) ?_
 refine Tri.seq ?_
 refine Tri.cond (x := (decide ((((k2 : Nat) : Int) : Int) < 64))) (by kernel_rfl) (fun h3 => ?_) (fun h3 => ?_)
 have h3' := of_decide_eq_true h3
 refine Tri.skip ?_
 change Tri _ _ _ _ _ _
 refine Tri.seq ?_
 refine Tri.block ?_
 refine sq [] none [7, 44, 6, 5, 3, 2] [176, 96, 32, 16] ([(7, .sc (.i .i64 ((k2 : Nat) : Int))), (44, .sc (.i .i64 ((k2 : Nat) : Int))), (6, .sc (.p 176 0)), (5, .sc (.sl 96 (0 + (64 * k1)) ((F49w64n0 p0) - (64 * k1)) 1 none)), (3, .sc (.p 32 0)), (2, .sc (.p 16 0))], [(176, .ints .u32 64 z2), (96, .ints .u8 (F49w64n0 p0) (F49w64 p0)), (32, .ints .u32 8 z1), (16, .ints .u8 32 [0, 0, 0, 0, 0, 0, 0, 0, 0, 0, 0, 0, 0, 0, 0, 0, 0, 0, 0, 0, 0, 0, 0, 0, 0, 0, 0, 0, 0, 0, 0, 0])]) 256 (t2 pT) ?_
 refine rq [(48, qi ((k2 / 4 : Nat) : Int)), (50, qi ((k2 / 4 : Nat) : Int))] (some [0, 1, 0, 4, 12, 28, 60, 0, 0, 384, 896, 1920, 4092, 8191, 16383]) [44, 6, 5, 3, 2] [176, 96, 32, 16] ([(44, .sc (.i .i64 ((k2 : Nat) : Int))), (6, .sc (.p 176 0)), (5, .sc (.sl 96 (0 + (64 * k1)) ((F49w64n0 p0) - (64 * k1)) 1 none)), (3, .sc (.p 32 0)), (2, .sc (.p 16 0))], [(176, .ints .u32 64 (z2.set (k2 / 4) (iOr .u32 (iShl .u32 (z2.getD (k2 / 4) 0) 8) (IntKind.wrap .u32 ((F49w64 p0).getD (adr (0 + (64 * k1)) k2 1) 0))))), (96, .ints .u8 (F49w64n0 p0) (F49w64 p0)), (32, .ints .u32 8 z1), (16, .ints .u8 32 [0, 0, 0, 0, 0, 0, 0, 0, 0, 0, 0, 0, 0, 0, 0, 0, 0, 0, 0, 0, 0, 0, 0, 0, 0, 0, 0, 0, 0, 0, 0, 0])]) 496 (t1 (pv (lo (4 ≠ (0 : Int))) (pl (show (iQuo .i64 ((k2 : Nat) : Int) 4) = ((k2 / 4 : Nat) : Int) from iQuo_nat (a := k2) (b := 4) (by omega))) (t1 (pv (lo (4 ≠ (0 : Int))) (pl (show (iQuo .i64 ((k2 : Nat) : Int) 4) = ((k2 / 4 : Nat) : Int) from iQuo_nat (a := k2) (b := 4) (by omega))) (pu (lo ((0 : Int) ≤ ((k2 / 4 : Nat) : Int) ∧ ((k2 / 4 : Nat) : Int) < ((64 : Nat) : Int))) (pu (lo (k2 / 4 < 64)) (pu (lo ((0 : Int) ≤ 8)) (t2 (pu (lo ((0 : Int) ≤ ((k2 : Nat) : Int) ∧ ((k2 : Nat) : Int) < (((F49w64n0 p0) - (64 * k1) : Nat) : Int))) (pu (lo (adr (0 + (64 * k1)) k2 1 < (F49w64n0 p0))) (t2 (pu (lo ((0 : Int) ≤ ((k2 / 4 : Nat) : Int) ∧ ((k2 / 4 : Nat) : Int) < ((64 : Nat) : Int))) (pu (pa (lo (k2 / 4 < 64)) (lr (1 = 1))) pT))))))))))))) ?_
 change Tri _ _ _ _ _ _
 refine rq [(61, qi ((k2 + 1 : Nat) : Int))] none [44, 6, 5, 3, 2] [176, 96, 32, 16] ([(44, .sc (.i .i64 ((k2 + 1 : Nat) : Int))), (6, .sc (.p 176 0)), (5, .sc (.sl 96 (0 + (64 * k1)) ((F49w64n0 p0) - (64 * k1)) 1 none)), (3, .sc (.p 32 0)), (2, .sc (.p 16 0))], [(176, .ints .u32 64 (z2.set (k2 / 4) (iOr .u32 (iShl .u32 (z2.getD (k2 / 4) 0) 8) (IntKind.wrap .u32 ((F49w64 p0).getD (adr (0 + (64 * k1)) k2 1) 0))))), (96, .ints .u8 (F49w64n0 p0) (F49w64 p0)), (32, .ints .u32 8 z1), (16, .ints .u8 32 [0, 0, 0, 0, 0, 0, 0, 0, 0, 0, 0, 0, 0, 0, 0, 0, 0, 0, 0, 0, 0, 0, 0, 0, 0, 0, 0, 0, 0, 0, 0, 0])]) 528 (pv pT (pl (show (iAdd .i64 ((k2 : Nat) : Int) 1) = ((k2 + 1 : Nat) : Int) from iAdd_nat (a := k2) (b := 1) (by omega))) (t1 pT)) ?_
 repeat (refine blkP_normal ?_)
 refine countP_normal (by omega) trivial ?_
 exact sp [(176, 176), (96, 96), (32, 32), (16, 16)] [44, 6, 5, 3, 2]
 have h3' := of_decide_eq_false h3
 refine Tri.exit ?_
 have hend2 : k2 = 64 := by (have := of_decide_eq_false h3; omega)
 subst hend2; subst hz2
 change Tri _ _ _ _ _ _
 refine Tri.seq ?_
 refine sq [] none [8, 6, 5, 3, 2] [176, 96, 32, 16] ([(8, .sc (.i .i64 16)), (6, .sc (.p 176 0)), (5, .sc (.sl 96 (0 + (64 * k1)) ((F49w64n0 p0) - (64 * k1)) 1 none)), (3, .sc (.p 32 0)), (2, .sc (.p 16 0))], [(176, .ints .u32 64 (itr (F34l2 p0 k1) 64 [0, 0, 0, 0, 0, 0, 0, 0, 0, 0, 0, 0, 0, 0, 0, 0, 0, 0, 0, 0, 0, 0, 0, 0, 0, 0, 0, 0, 0, 0, 0, 0, 0, 0, 0, 0, 0, 0, 0, 0, 0, 0, 0, 0, 0, 0, 0, 0, 0, 0, 0, 0, 0, 0, 0, 0, 0, 0, 0, 0, 0, 0, 0, 0])), (96, .ints .u8 (F49w64n0 p0) (F49w64 p0)), (32, .ints .u32 8 z1), (16, .ints .u8 32 [0, 0, 0, 0, 0, 0, 0, 0, 0, 0, 0, 0, 0, 0, 0, 0, 0, 0, 0, 0, 0, 0, 0, 0, 0, 0, 0, 0, 0, 0, 0, 0])]) 240 (t1 pT) ?_
 refine Tri.block ?_
 refine Tri.count 240 48 (F34l3) (itr (F34l2 p0 k1) 64 [0, 0, 0, 0, 0, 0, 0, 0, 0, 0, 0, 0, 0, 0, 0, 0, 0, 0, 0, 0, 0, 0, 0, 0, 0, 0, 0, 0, 0, 0, 0, 0, 0, 0, 0, 0, 0, 0, 0, 0, 0, 0, 0, 0, 0, 0, 0, 0, 0, 0, 0, 0, 0, 0, 0, 0, 0, 0, 0, 0, 0, 0, 0, 0]) (fun k3 z3 => True) (fun k3 z3 => ([(8, .sc (.i .i64 ((k3 + 16 : Nat) : Int))), (6, .sc (.p 176 0)), (5, .sc (.sl 96 (0 + (64 * k1)) ((F49w64n0 p0) - (64 * k1)) 1 none)), (3, .sc (.p 32 0)), (2, .sc (.p 16 0))], [(176, .ints .u32 64 z3), (96, .ints .u8 (F49w64n0 p0) (F49w64 p0)), (32, .ints .u32 8 z1), (16, .ints .u8 32 [0, 0, 0, 0, 0, 0, 0, 0, 0, 0, 0, 0, 0, 0, 0, 0, 0, 0, 0, 0, 0, 0, 0, 0, 0, 0, 0, 0, 0, 0, 0, 0])])) trivial (Sub.of_eq (by kernel_rfl)) ?_
 intro k3 z3 hk3 hz3 hJ3
 refine Tri.seq ?_
 refine sq [] none [63, 8, 6, 5, 3, 2] [176, 96, 32, 16] ([(63, .sc (.b (decide ((((k3 + 16 : Nat) : Int) : Int) < 64)))), (8, .sc (.i .i64 ((k3 + 16 : Nat) : Int))), (6, .sc (.p 176 0)), (5, .sc (.sl 96 (0 + (64 * k1)) ((F49w64n0 p0) - (64 * k1)) 1 none)), (3, .sc (.p 32 0)), (2, .sc (.p 16 0))], [(176, .ints .u32 64 z3), (96, .ints .u8 (F49w64n0 p0) (F49w64 p0)), (32, .ints .u32 8 z1), (16, .ints .u8 32 [0, 0, 0, 0, 0, 0, 0, 0, 0, 0, 0, 0, 0, 0, 0, 0, 0, 0, 0, 0, 0, 0, 0, 0, 0, 0, 0, 0, 0, 0, 0, 0])]) 272 (t2 pT) ?_
 refine Tri.cond (x := (decide ((((k3 + 16 : Nat) : Int) : Int) < 64))) (by kernel_rfl) (fun h4 => ?_) (fun h4 => ?_)
 have h4' := of_decide_eq_true h4
 refine Tri.skip ?_
 change Tri _ _ _ _ _ _
 refine Tri.seq ?_
 refine Tri.block ?_
 refine sq [(67, qi (((k3 + 16) - 15 : Nat) : Int)), (71, qi (((k3 + 16) - 2 : Nat) : Int))] (some [0, 1, 3, 7, 0, 16, 48, 112, 15, 511]) [10, 9, 8, 6, 5, 3, 2] [176, 96, 32, 16] ([(10, .sc (.i .u32 (z3.getD ((k3 + 16) - 2) 0))), (9, .sc (.i .u32 (z3.getD ((k3 + 16) - 15) 0))), (8, .sc (.i .i64 ((k3 + 16 : Nat) : Int))), (6, .sc (.p 176 0)), (5, .sc (.sl 96 (0 + (64 * k1)) ((F49w64n0 p0) - (64 * k1)) 1 none)), (3, .sc (.p 32 0)), (2, .sc (.p 16 0))], [(176, .ints .u32 64 z3), (96, .ints .u8 (F49w64n0 p0) (F49w64 p0)), (32, .ints .u32 8 z1), (16, .ints .u8 32 [0, 0, 0, 0, 0, 0, 0, 0, 0, 0, 0, 0, 0, 0, 0, 0, 0, 0, 0, 0, 0, 0, 0, 0, 0, 0, 0, 0, 0, 0, 0, 0])]) 432 (t1 (pv pT (pl (show (iSub .i64 ((k3 + 16 : Nat) : Int) 15) = (((k3 + 16) - 15 : Nat) : Int) from iSub_nat (a := k3 + 16) (b := 15) (by omega) (by omega))) (pu (lo ((0 : Int) ≤ (((k3 + 16) - 15 : Nat) : Int) ∧ (((k3 + 16) - 15 : Nat) : Int) < ((64 : Nat) : Int))) (pu (lo ((k3 + 16) - 15 < 64)) (t1 (pv pT (pl (show (iSub .i64 ((k3 + 16 : Nat) : Int) 2) = (((k3 + 16) - 2 : Nat) : Int) from iSub_nat (a := k3 + 16) (b := 2) (by omega) (by omega))) (pu (lo ((0 : Int) ≤ (((k3 + 16) - 2 : Nat) : Int) ∧ (((k3 + 16) - 2 : Nat) : Int) < ((64 : Nat) : Int))) (pu (lo ((k3 + 16) - 2 < 64)) (t2 pT))))))))) ?_
 refine rq [(76, qi (((k3 + 16) - 16 : Nat) : Int)), (80, qi (((k3 + 16) - 7 : Nat) : Int))] (some [0, 0, 2, 6, 14, 0, 32, 96, 224, 510, 0, 1024, 0, 7168, 15360, 0, 32768, 130048, 262142, 0, 539648, 0, 3685376, 7879680, 0, 16777216, 66599936, 134217726, 268435455, 536870911]) [8, 6, 5, 3, 2] [176, 96, 32, 16] ([(8, .sc (.i .i64 ((k3 + 16 : Nat) : Int))), (6, .sc (.p 176 0)), (5, .sc (.sl 96 (0 + (64 * k1)) ((F49w64n0 p0) - (64 * k1)) 1 none)), (3, .sc (.p 32 0)), (2, .sc (.p 16 0))], [(176, .ints .u32 64 (z3.set (k3 + 16) (iAdd .u32 (iAdd .u32 (iAdd .u32 (z3.getD ((k3 + 16) - 16) 0) (z3.getD ((k3 + 16) - 7) 0)) (iXor .u32 (iXor .u32 (F50 (z3.getD ((k3 + 16) - 15) 0) 25) (F50 (z3.getD ((k3 + 16) - 15) 0) 14)) (iShr .u32 (z3.getD ((k3 + 16) - 15) 0) 3))) (iXor .u32 (iXor .u32 (F50 (z3.getD ((k3 + 16) - 2) 0) 15) (F50 (z3.getD ((k3 + 16) - 2) 0) 13)) (iShr .u32 (z3.getD ((k3 + 16) - 2) 0) 10))))), (96, .ints .u8 (F49w64n0 p0) (F49w64 p0)), (32, .ints .u32 8 z1), (16, .ints .u8 32 [0, 0, 0, 0, 0, 0, 0, 0, 0, 0, 0, 0, 0, 0, 0, 0, 0, 0, 0, 0, 0, 0, 0, 0, 0, 0, 0, 0, 0, 0, 0, 0])]) 912 (t2 (pv pT (pl (show (iSub .i64 ((k3 + 16 : Nat) : Int) 16) = (((k3 + 16) - 16 : Nat) : Int) from iSub_nat (a := k3 + 16) (b := 16) (by omega) (by omega))) (pu (lo ((0 : Int) ≤ (((k3 + 16) - 16 : Nat) : Int) ∧ (((k3 + 16) - 16 : Nat) : Int) < ((64 : Nat) : Int))) (pu (lo ((k3 + 16) - 16 < 64)) (t1 (pv pT (pl (show (iSub .i64 ((k3 + 16 : Nat) : Int) 7) = (((k3 + 16) - 7 : Nat) : Int) from iSub_nat (a := k3 + 16) (b := 7) (by omega) (by omega))) (pu (lo ((0 : Int) ≤ (((k3 + 16) - 7 : Nat) : Int) ∧ (((k3 + 16) - 7 : Nat) : Int) < ((64 : Nat) : Int))) (pu (lo ((k3 + 16) - 7 < 64)) (t2 (pu pz (t1 (pu pz (t2 (pu (lo ((0 : Int) ≤ 3)) (t3 (pu pz (t1 (pu pz (t2 (pu (lo ((0 : Int) ≤ 10)) (t2 (pu (lo ((0 : Int) ≤ ((k3 + 16 : Nat) : Int) ∧ ((k3 + 16 : Nat) : Int) < ((64 : Nat) : Int))) (pu (pa (lo (k3 + 16 < 64)) (lr (1 = 1))) pT))))))))))))))))))))))) ?_
 change Tri _ _ _ _ _ _
 refine rq [(65, qi (((k3 + 16) + 1 : Nat) : Int))] none [8, 6, 5, 3, 2] [176, 96, 32, 16] ([(8, .sc (.i .i64 (((k3 + 16) + 1 : Nat) : Int))), (6, .sc (.p 176 0)), (5, .sc (.sl 96 (0 + (64 * k1)) ((F49w64n0 p0) - (64 * k1)) 1 none)), (3, .sc (.p 32 0)), (2, .sc (.p 16 0))], [(176, .ints .u32 64 (z3.set (k3 + 16) (iAdd .u32 (iAdd .u32 (iAdd .u32 (z3.getD ((k3 + 16) - 16) 0) (z3.getD ((k3 + 16) - 7) 0)) (iXor .u32 (iXor .u32 (F50 (z3.getD ((k3 + 16) - 15) 0) 25) (F50 (z3.getD ((k3 + 16) - 15) 0) 14)) (iShr .u32 (z3.getD ((k3 + 16) - 15) 0) 3))) (iXor .u32 (iXor .u32 (F50 (z3.getD ((k3 + 16) - 2) 0) 15) (F50 (z3.getD ((k3 + 16) - 2) 0) 13)) (iShr .u32 (z3.getD ((k3 + 16) - 2) 0) 10))))), (96, .ints .u8 (F49w64n0 p0) (F49w64 p0)), (32, .ints .u32 8 z1), (16, .ints .u8 32 [0, 0, 0, 0, 0, 0, 0, 0, 0, 0, 0, 0, 0, 0, 0, 0, 0, 0, 0, 0, 0, 0, 0, 0, 0, 0, 0, 0, 0, 0, 0, 0])]) 960 (t1 (pv pT (pl (show (iAdd .i64 ((k3 + 16 : Nat) : Int) 1) = (((k3 + 16) + 1 : Nat) : Int) from iAdd_nat (a := k3 + 16) (b := 1) (by omega))) (t1 pT))) ?_
 repeat (refine blkP_normal ?_)
 refine countP_normal (by omega) trivial ?_
 exact sp [(176, 176), (96, 96), (32, 32), (16, 16)] [8, 6, 5, 3, 2]
 have h4' := of_decide_eq_false h4
 refine Tri.exit ?_
 have hend3 : k3 = 48 := by (have := of_decide_eq_false h4; omega)
 subst hend3; subst hz3
 change Tri _ _ _ _ _ _
 refine sq [] (some [0, 1, 0, 4, 0, 16, 0, 64, 0, 256, 0, 1024, 0, 4096, 0, 16384, 3, 65551, 196671, 459007, 984063, 2035711, 4145151, 8388607]) [18, 17, 16, 15, 14, 13, 12, 11, 6, 5, 3, 2] [176, 96, 32, 16] ([(18, .sc (.i .u32 (z1.getD 7 0))), (17, .sc (.i .u32 (z1.getD 6 0))), (16, .sc (.i .u32 (z1.getD 5 0))), (15, .sc (.i .u32 (z1.getD 4 0))), (14, .sc (.i .u32 (z1.getD 3 0))), (13, .sc (.i .u32 (z1.getD 2 0))), (12, .sc (.i .u32 (z1.getD 1 0))), (11, .sc (.i .u32 (z1.getD 0 0))), (6, .sc (.p 176 0)), (5, .sc (.sl 96 (0 + (64 * k1)) ((F49w64n0 p0) - (64 * k1)) 1 none)), (3, .sc (.p 32 0)), (2, .sc (.p 16 0))], [(176, .ints .u32 64 (itr (F34l3) 48 (itr (F34l2 p0 k1) 64 [0, 0, 0, 0, 0, 0, 0, 0, 0, 0, 0, 0, 0, 0, 0, 0, 0, 0, 0, 0, 0, 0, 0, 0, 0, 0, 0, 0, 0, 0, 0, 0, 0, 0, 0, 0, 0, 0, 0, 0, 0, 0, 0, 0, 0, 0, 0, 0, 0, 0, 0, 0, 0, 0, 0, 0, 0, 0, 0, 0, 0, 0, 0, 0]))), (96, .ints .u8 (F49w64n0 p0) (F49w64 p0)), (32, .ints .u32 8 z1), (16, .ints .u8 32 [0, 0, 0, 0, 0, 0, 0, 0, 0, 0, 0, 0, 0, 0, 0, 0, 0, 0, 0, 0, 0, 0, 0, 0, 0, 0, 0, 0, 0, 0, 0, 0])]) 656 (pu (lo ((0 : Int) ≤ 0 ∧ 0 < ((8 : Nat) : Int))) (pu (lo (0 < 8)) (pu (lo ((0 : Int) ≤ 1 ∧ 1 < ((8 : Nat) : Int))) (pu (lo (1 < 8)) (pu (lo ((0 : Int) ≤ 2 ∧ 2 < ((8 : Nat) : Int))) (pu (lo (2 < 8)) (pu (lo ((0 : Int) ≤ 3 ∧ 3 < ((8 : Nat) : Int))) (pu (lo (3 < 8)) (pu (lo ((0 : Int) ≤ 4 ∧ 4 < ((8 : Nat) : Int))) (pu (lo (4 < 8)) (pu (lo ((0 : Int) ≤ 5 ∧ 5 < ((8 : Nat) : Int))) (pu (lo (5 < 8)) (pu (lo ((0 : Int) ≤ 6 ∧ 6 < ((8 : Nat) : Int))) (pu (lo (6 < 8)) (pu (lo ((0 : Int) ≤ 7 ∧ 7 < ((8 : Nat) : Int))) (pu (lo (7 < 8)) (t8 pT))))))))))))))))) ?_
 refine Tri.seq ?_
 refine sq [] none [119, 18, 17, 16, 15, 14, 13, 12, 11, 6, 5, 3, 2] [176, 96, 32, 16] ([(119, .sc (.i .i64 0)), (18, .sc (.i .u32 (z1.getD 7 0))), (17, .sc (.i .u32 (z1.getD 6 0))), (16, .sc (.i .u32 (z1.getD 5 0))), (15, .sc (.i .u32 (z1.getD 4 0))), (14, .sc (.i .u32 (z1.getD 3 0))), (13, .sc (.i .u32 (z1.getD 2 0))), (12, .sc (.i .u32 (z1.getD 1 0))), (11, .sc (.i .u32 (z1.getD 0 0))), (6, .sc (.p 176 0)), (5, .sc (.sl 96 (0 + (64 * k1)) ((F49w64n0 p0) - (64 * k1)) 1 none)), (3, .sc (.p 32 0)), (2, .sc (.p 16 0))], [(176, .ints .u32 64 (itr (F34l3) 48 (itr (F34l2 p0 k1) 64 [0, 0, 0, 0, 0, 0, 0, 0, 0, 0, 0, 0, 0, 0, 0, 0, 0, 0, 0, 0, 0, 0, 0, 0, 0, 0, 0, 0, 0, 0, 0, 0, 0, 0, 0, 0, 0, 0, 0, 0, 0, 0, 0, 0, 0, 0, 0, 0, 0, 0, 0, 0, 0, 0, 0, 0, 0, 0, 0, 0, 0, 0, 0, 0]))), (96, .ints .u8 (F49w64n0 p0) (F49w64 p0)), (32, .ints .u32 8 z1), (16, .ints .u8 32 [0, 0, 0, 0, 0, 0, 0, 0, 0, 0, 0, 0, 0, 0, 0, 0, 0, 0, 0, 0, 0, 0, 0, 0, 0, 0, 0, 0, 0, 0, 0, 0])]) 672 (t1 pT) ?_
 refine Tri.block ?_
 refine Tri.count 672 64 (F34l4 p0 k1) (z1.getD 7 0, z1.getD 6 0, z1.getD 5 0, z1.getD 4 0, z1.getD 3 0, z1.getD 2 0, z1.getD 1 0, z1.getD 0 0) (fun k4 z4 => True) (fun k4 z4 => ([(119, .sc (.i .i64 ((k4 : Nat) : Int))), (18, .sc (.i .u32 z4.1)), (17, .sc (.i .u32 z4.2.1)), (16, .sc (.i .u32 z4.2.2.1)), (15, .sc (.i .u32 z4.2.2.2.1)), (14, .sc (.i .u32 z4.2.2.2.2.1)), (13, .sc (.i .u32 z4.2.2.2.2.2.1)), (12, .sc (.i .u32 z4.2.2.2.2.2.2.1)), (11, .sc (.i .u32 z4.2.2.2.2.2.2.2)), (6, .sc (.p 176 0)), (5, .sc (.sl 96 (0 + (64 * k1)) ((F49w64n0 p0) - (64 * k1)) 1 none)), (3, .sc (.p 32 0)), (2, .sc (.p 16 0))], [(176, .ints .u32 64 (itr (F34l3) 48 (itr (F34l2 p0 k1) 64 [0, 0, 0, 0, 0, 0, 0, 0, 0, 0, 0, 0, 0, 0, 0, 0, 0, 0, 0, 0, 0, 0, 0, 0, 0, 0, 0, 0, 0, 0, 0, 0, 0, 0, 0, 0, 0, 0, 0, 0, 0, 0, 0, 0, 0, 0, 0, 0, 0, 0, 0, 0, 0, 0, 0, 0, 0, 0, 0, 0, 0, 0, 0, 0]))), (96, .ints .u8 (F49w64n0 p0) (F49w64 p0)), (32, .ints .u32 8 z1), (16, .ints .u8 32 [0, 0, 0, 0, 0, 0, 0, 0, 0, 0, 0, 0, 0, 0, 0, 0, 0, 0, 0, 0, 0, 0, 0, 0, 0, 0, 0, 0, 0, 0, 0, 0])])) trivial (Sub.of_eq (by kernel_rfl)) ?_
 intro k4 z4 hk4 hz4 hJ4
 refine sq [] none [120, 119, 18, 17, 16, 15, 14, 13, 12, 11, 6, 5, 3, 2] [176, 96, 32, 16] ([(120, .sc (.b (decide ((((k4 : Nat) : Int) : Int) < 64)))), (119, .sc (.i .i64 ((k4 : Nat) : Int))), (18, .sc (.i .u32 z4.1)), (17, .sc (.i .u32 z4.2.1)), (16, .sc (.i .u32 z4.2.2.1)), (15, .sc (.i .u32 z4.2.2.2.1)), (14, .sc (.i .u32 z4.2.2.2.2.1)), (13, .sc (.i .u32 z4.2.2.2.2.2.1)), (12, .sc (.i .u32 z4.2.2.2.2.2.2.1)), (11, .sc (.i .u32 z4.2.2.2.2.2.2.2)), (6, .sc (.p 176 0)), (5, .sc (.sl 96 (0 + (64 * k1)) ((F49w64n0 p0) - (64 * k1)) 1 none)), (3, .sc (.p 32 0)), (2, .sc (.p 16 0))], [(176, .ints .u32 64 (itr (F34l3) 48 (itr (F34l2 p0 k1) 64 [0, 0, 0, 0, 0, 0, 0, 0, 0, 0, 0, 0, 0, 0, 0, 0, 0, 0, 0, 0, 0, 0, 0, 0, 0, 0, 0, 0, 0, 0, 0, 0, 0, 0, 0, 0, 0, 0, 0, 0, 0, 0, 0, 0, 0, 0, 0, 0, 0, 0, 0, 0, 0, 0, 0, 0, 0, 0, 0, 0, 0, 0, 0, 0]))), (96, .ints .u8 (F49w64n0 p0) (F49w64 p0)), (32, .ints .u32 8 z1), (16, .ints .u8 32 [0, 0, 0, 0, 0, 0, 0, 0, 0, 0, 0, 0, 0, 0, 0, 0, 0, 0, 0, 0, 0, 0, 0, 0, 0, 0, 0, 0, 0, 0, 0, 0])]) 688 (t1 pT) ?_
 refine Tri.seq ?_
 refine Tri.cond (x := (decide ((((k4 : Nat) : Int) : Int) < 64))) (by kernel_rfl) (fun h5 => ?_) (fun h5 => ?_)
 have h5' := of_decide_eq_true h5
 refine Tri.skip ?_
 change Tri _ _ _ _ _ _
 refine Tri.seq ?_
 refine Tri.block ?_
 refine sq [] none [19, 119, 18, 17, 16, 15, 14, 13, 12, 11, 6, 5, 3, 2] [176, 96, 32, 16] ([(19, .sc (.i .i64 ((k4 : Nat) : Int))), (119, .sc (.i .i64 ((k4 : Nat) : Int))), (18, .sc (.i .u32 z4.1)), (17, .sc (.i .u32 z4.2.1)), (16, .sc (.i .u32 z4.2.2.1)), (15, .sc (.i .u32 z4.2.2.2.1)), (14, .sc (.i .u32 z4.2.2.2.2.1)), (13, .sc (.i .u32 z4.2.2.2.2.2.1)), (12, .sc (.i .u32 z4.2.2.2.2.2.2.1)), (11, .sc (.i .u32 z4.2.2.2.2.2.2.2)), (6, .sc (.p 176 0)), (5, .sc (.sl 96 (0 + (64 * k1)) ((F49w64n0 p0) - (64 * k1)) 1 none)), (3, .sc (.p 32 0)), (2, .sc (.p 16 0))], [(176, .ints .u32 64 (itr (F34l3) 48 (itr (F34l2 p0 k1) 64 [0, 0, 0, 0, 0, 0, 0, 0, 0, 0, 0, 0, 0, 0, 0, 0, 0, 0, 0, 0, 0, 0, 0, 0, 0, 0, 0, 0, 0, 0, 0, 0, 0, 0, 0, 0, 0, 0, 0, 0, 0, 0, 0, 0, 0, 0, 0, 0, 0, 0, 0, 0, 0, 0, 0, 0, 0, 0, 0, 0, 0, 0, 0, 0]))), (96, .ints .u8 (F49w64n0 p0) (F49w64 p0)), (32, .ints .u32 8 z1), (16, .ints .u8 32 [0, 0, 0, 0, 0, 0, 0, 0, 0, 0, 0, 0, 0, 0, 0, 0, 0, 0, 0, 0, 0, 0, 0, 0, 0, 0, 0, 0, 0, 0, 0, 0])]) 720 (t2 pT) ?_
 refine sq [] (some [0, 0, 2, 0, 14, 30, 0, 94, 254, 511, 0, 0, 3072, 0, 8192, 0, 57344, 130048, 262143, 0, 524288, 1572864, 3670016, 7864320, 16777215, 0, 33554432, 100663296, 268435455, 536870911]) [20, 119, 17, 16, 15, 14, 13, 12, 11, 6, 5, 3, 2] [176, 96, 32, 16] ([(20, .sc (.i .u32 (iAdd .u32 (iAdd .u32 (iAdd .u32 (iAdd .u32 z4.1 (iXor .u32 (iXor .u32 (F50 z4.2.2.2.1 26) (F50 z4.2.2.2.1 21)) (F50 z4.2.2.2.1 7))) (iXor .u32 (iAnd .u32 z4.2.2.2.1 z4.2.2.1) (iAnd .u32 (iNot .u32 z4.2.2.2.1) z4.2.1))) (IntKind.wrap .u32 (iShr .u64 (gSteps.getD (0 + k4) 0) 32))) ((itr (F34l3) 48 (itr (F34l2 p0 k1) 64 [0, 0, 0, 0, 0, 0, 0, 0, 0, 0, 0, 0, 0, 0, 0, 0, 0, 0, 0, 0, 0, 0, 0, 0, 0, 0, 0, 0, 0, 0, 0, 0, 0, 0, 0, 0, 0, 0, 0, 0, 0, 0, 0, 0, 0, 0, 0, 0, 0, 0, 0, 0, 0, 0, 0, 0, 0, 0, 0, 0, 0, 0, 0, 0])).getD k4 0)))), (119, .sc (.i .i64 ((k4 : Nat) : Int))), (17, .sc (.i .u32 z4.2.1)), (16, .sc (.i .u32 z4.2.2.1)), (15, .sc (.i .u32 z4.2.2.2.1)), (14, .sc (.i .u32 z4.2.2.2.2.1)), (13, .sc (.i .u32 z4.2.2.2.2.2.1)), (12, .sc (.i .u32 z4.2.2.2.2.2.2.1)), (11, .sc (.i .u32 z4.2.2.2.2.2.2.2)), (6, .sc (.p 176 0)), (5, .sc (.sl 96 (0 + (64 * k1)) ((F49w64n0 p0) - (64 * k1)) 1 none)), (3, .sc (.p 32 0)), (2, .sc (.p 16 0))], [(176, .ints .u32 64 (itr (F34l3) 48 (itr (F34l2 p0 k1) 64 [0, 0, 0, 0, 0, 0, 0, 0, 0, 0, 0, 0, 0, 0, 0, 0, 0, 0, 0, 0, 0, 0, 0, 0, 0, 0, 0, 0, 0, 0, 0, 0, 0, 0, 0, 0, 0, 0, 0, 0, 0, 0, 0, 0, 0, 0, 0, 0, 0, 0, 0, 0, 0, 0, 0, 0, 0, 0, 0, 0, 0, 0, 0, 0]))), (96, .ints .u8 (F49w64n0 p0) (F49w64 p0)), (32, .ints .u32 8 z1), (16, .ints .u8 32 [0, 0, 0, 0, 0, 0, 0, 0, 0, 0, 0, 0, 0, 0, 0, 0, 0, 0, 0, 0, 0, 0, 0, 0, 0, 0, 0, 0, 0, 0, 0, 0])]) 1200 (t2 (pu pz (t1 (pu pz (t2 (pu pz (t3 (t9 (pu (lo ((0 : Int) ≤ ((k4 : Nat) : Int) ∧ ((k4 : Nat) : Int) < ((80 : Nat) : Int))) (pu (lo (0 + k4 < gSteps.length)) (pu (lo ((0 : Int) ≤ 32)) (t3 (pu (lo ((0 : Int) ≤ ((k4 : Nat) : Int) ∧ ((k4 : Nat) : Int) < ((64 : Nat) : Int))) (pu (lo (k4 < 64)) (t2 pT))))))))))))))) ?_
 refine sq [] none [21, 20, 119, 17, 16, 15, 14, 13, 12, 11, 6, 5, 3, 2] [176, 96, 32, 16] ([(21, .sc (.i .u32 (iAdd .u32 (iXor .u32 (iXor .u32 (F50 z4.2.2.2.2.2.2.2 30) (F50 z4.2.2.2.2.2.2.2 19)) (F50 z4.2.2.2.2.2.2.2 10)) (iXor .u32 (iXor .u32 (iAnd .u32 z4.2.2.2.2.2.2.2 z4.2.2.2.2.2.2.1) (iAnd .u32 z4.2.2.2.2.2.2.2 z4.2.2.2.2.2.1)) (iAnd .u32 z4.2.2.2.2.2.2.1 z4.2.2.2.2.2.1))))), (20, .sc (.i .u32 (iAdd .u32 (iAdd .u32 (iAdd .u32 (iAdd .u32 z4.1 (iXor .u32 (iXor .u32 (F50 z4.2.2.2.1 26) (F50 z4.2.2.2.1 21)) (F50 z4.2.2.2.1 7))) (iXor .u32 (iAnd .u32 z4.2.2.2.1 z4.2.2.1) (iAnd .u32 (iNot .u32 z4.2.2.2.1) z4.2.1))) (IntKind.wrap .u32 (iShr .u64 (gSteps.getD (0 + k4) 0) 32))) ((itr (F34l3) 48 (itr (F34l2 p0 k1) 64 [0, 0, 0, 0, 0, 0, 0, 0, 0, 0, 0, 0, 0, 0, 0, 0, 0, 0, 0, 0, 0, 0, 0, 0, 0, 0, 0, 0, 0, 0, 0, 0, 0, 0, 0, 0, 0, 0, 0, 0, 0, 0, 0, 0, 0, 0, 0, 0, 0, 0, 0, 0, 0, 0, 0, 0, 0, 0, 0, 0, 0, 0, 0, 0])).getD k4 0)))), (119, .sc (.i .i64 ((k4 : Nat) : Int))), (17, .sc (.i .u32 z4.2.1)), (16, .sc (.i .u32 z4.2.2.1)), (15, .sc (.i .u32 z4.2.2.2.1)), (14, .sc (.i .u32 z4.2.2.2.2.1)), (13, .sc (.i .u32 z4.2.2.2.2.2.1)), (12, .sc (.i .u32 z4.2.2.2.2.2.2.1)), (11, .sc (.i .u32 z4.2.2.2.2.2.2.2)), (6, .sc (.p 176 0)), (5, .sc (.sl 96 (0 + (64 * k1)) ((F49w64n0 p0) - (64 * k1)) 1 none)), (3, .sc (.p 32 0)), (2, .sc (.p 16 0))], [(176, .ints .u32 64 (itr (F34l3) 48 (itr (F34l2 p0 k1) 64 [0, 0, 0, 0, 0, 0, 0, 0, 0, 0, 0, 0, 0, 0, 0, 0, 0, 0, 0, 0, 0, 0, 0, 0, 0, 0, 0, 0, 0, 0, 0, 0, 0, 0, 0, 0, 0, 0, 0, 0, 0, 0, 0, 0, 0, 0, 0, 0, 0, 0, 0, 0, 0, 0, 0, 0, 0, 0, 0, 0, 0, 0, 0, 0]))), (96, .ints .u8 (F49w64n0 p0) (F49w64 p0)), (32, .ints .u32 8 z1), (16, .ints .u8 32 [0, 0, 0, 0, 0, 0, 0, 0, 0, 0, 0, 0, 0, 0, 0, 0, 0, 0, 0, 0, 0, 0, 0, 0, 0, 0, 0, 0, 0, 0, 0, 0])]) 1536 (t1 (pu pz (t1 (pu pz (t2 (pu pz (t5 (t9 pT)))))))) ?_
 refine rq [] none [18, 17, 16, 15, 14, 13, 12, 11, 119, 6, 5, 3, 2] [176, 96, 32, 16] ([(18, .sc (.i .u32 z4.2.1)), (17, .sc (.i .u32 z4.2.2.1)), (16, .sc (.i .u32 z4.2.2.2.1)), (15, .sc (.i .u32 (iAdd .u32 z4.2.2.2.2.1 (iAdd .u32 (iAdd .u32 (iAdd .u32 (iAdd .u32 z4.1 (iXor .u32 (iXor .u32 (F50 z4.2.2.2.1 26) (F50 z4.2.2.2.1 21)) (F50 z4.2.2.2.1 7))) (iXor .u32 (iAnd .u32 z4.2.2.2.1 z4.2.2.1) (iAnd .u32 (iNot .u32 z4.2.2.2.1) z4.2.1))) (IntKind.wrap .u32 (iShr .u64 (gSteps.getD (0 + k4) 0) 32))) ((itr (F34l3) 48 (itr (F34l2 p0 k1) 64 [0, 0, 0, 0, 0, 0, 0, 0, 0, 0, 0, 0, 0, 0, 0, 0, 0, 0, 0, 0, 0, 0, 0, 0, 0, 0, 0, 0, 0, 0, 0, 0, 0, 0, 0, 0, 0, 0, 0, 0, 0, 0, 0, 0, 0, 0, 0, 0, 0, 0, 0, 0, 0, 0, 0, 0, 0, 0, 0, 0, 0, 0, 0, 0])).getD k4 0))))), (14, .sc (.i .u32 z4.2.2.2.2.2.1)), (13, .sc (.i .u32 z4.2.2.2.2.2.2.1)), (12, .sc (.i .u32 z4.2.2.2.2.2.2.2)), (11, .sc (.i .u32 (iAdd .u32 (iAdd .u32 (iAdd .u32 (iAdd .u32 (iAdd .u32 z4.1 (iXor .u32 (iXor .u32 (F50 z4.2.2.2.1 26) (F50 z4.2.2.2.1 21)) (F50 z4.2.2.2.1 7))) (iXor .u32 (iAnd .u32 z4.2.2.2.1 z4.2.2.1) (iAnd .u32 (iNot .u32 z4.2.2.2.1) z4.2.1))) (IntKind.wrap .u32 (iShr .u64 (gSteps.getD (0 + k4) 0) 32))) ((itr (F34l3) 48 (itr (F34l2 p0 k1) 64 [0, 0, 0, 0, 0, 0, 0, 0, 0, 0, 0, 0, 0, 0, 0, 0, 0, 0, 0, 0, 0, 0, 0, 0, 0, 0, 0, 0, 0, 0, 0, 0, 0, 0, 0, 0, 0, 0, 0, 0, 0, 0, 0, 0, 0, 0, 0, 0, 0, 0, 0, 0, 0, 0, 0, 0, 0, 0, 0, 0, 0, 0, 0, 0])).getD k4 0)) (iAdd .u32 (iXor .u32 (iXor .u32 (F50 z4.2.2.2.2.2.2.2 30) (F50 z4.2.2.2.2.2.2.2 19)) (F50 z4.2.2.2.2.2.2.2 10)) (iXor .u32 (iXor .u32 (iAnd .u32 z4.2.2.2.2.2.2.2 z4.2.2.2.2.2.2.1) (iAnd .u32 z4.2.2.2.2.2.2.2 z4.2.2.2.2.2.1)) (iAnd .u32 z4.2.2.2.2.2.2.1 z4.2.2.2.2.2.1)))))), (119, .sc (.i .i64 ((k4 : Nat) : Int))), (6, .sc (.p 176 0)), (5, .sc (.sl 96 (0 + (64 * k1)) ((F49w64n0 p0) - (64 * k1)) 1 none)), (3, .sc (.p 32 0)), (2, .sc (.p 16 0))], [(176, .ints .u32 64 (itr (F34l3) 48 (itr (F34l2 p0 k1) 64 [0, 0, 0, 0, 0, 0, 0, 0, 0, 0, 0, 0, 0, 0, 0, 0, 0, 0, 0, 0, 0, 0, 0, 0, 0, 0, 0, 0, 0, 0, 0, 0, 0, 0, 0, 0, 0, 0, 0, 0, 0, 0, 0, 0, 0, 0, 0, 0, 0, 0, 0, 0, 0, 0, 0, 0, 0, 0, 0, 0, 0, 0, 0, 0]))), (96, .ints .u8 (F49w64n0 p0) (F49w64 p0)), (32, .ints .u32 8 z1), (16, .ints .u8 32 [0, 0, 0, 0, 0, 0, 0, 0, 0, 0, 0, 0, 0, 0, 0, 0, 0, 0, 0, 0, 0, 0, 0, 0, 0, 0, 0, 0, 0, 0, 0, 0])]) 1856 (t2 (t9 (t9 pT))) ?_
 change Tri _ _ _ _ _ _
 refine rq [(183, qi ((k4 + 1 : Nat) : Int))] none [119, 18, 17, 16, 15, 14, 13, 12, 11, 6, 5, 3, 2] [176, 96, 32, 16] ([(119, .sc (.i .i64 ((k4 + 1 : Nat) : Int))), (18, .sc (.i .u32 z4.2.1)), (17, .sc (.i .u32 z4.2.2.1)), (16, .sc (.i .u32 z4.2.2.2.1)), (15, .sc (.i .u32 (iAdd .u32 z4.2.2.2.2.1 (iAdd .u32 (iAdd .u32 (iAdd .u32 (iAdd .u32 z4.1 (iXor .u32 (iXor .u32 (F50 z4.2.2.2.1 26) (F50 z4.2.2.2.1 21)) (F50 z4.2.2.2.1 7))) (iXor .u32 (iAnd .u32 z4.2.2.2.1 z4.2.2.1) (iAnd .u32 (iNot .u32 z4.2.2.2.1) z4.2.1))) (IntKind.wrap .u32 (iShr .u64 (gSteps.getD (0 + k4) 0) 32))) ((itr (F34l3) 48 (itr (F34l2 p0 k1) 64 [0, 0, 0, 0, 0, 0, 0, 0, 0, 0, 0, 0, 0, 0, 0, 0, 0, 0, 0, 0, 0, 0, 0, 0, 0, 0, 0, 0, 0, 0, 0, 0, 0, 0, 0, 0, 0, 0, 0, 0, 0, 0, 0, 0, 0, 0, 0, 0, 0, 0, 0, 0, 0, 0, 0, 0, 0, 0, 0, 0, 0, 0, 0, 0])).getD k4 0))))), (14, .sc (.i .u32 z4.2.2.2.2.2.1)), (13, .sc (.i .u32 z4.2.2.2.2.2.2.1)), (12, .sc (.i .u32 z4.2.2.2.2.2.2.2)), (11, .sc (.i .u32 (iAdd .u32 (iAdd .u32 (iAdd .u32 (iAdd .u32 (iAdd .u32 z4.1 (iXor .u32 (iXor .u32 (F50 z4.2.2.2.1 26) (F50 z4.2.2.2.1 21)) (F50 z4.2.2.2.1 7))) (iXor .u32 (iAnd .u32 z4.2.2.2.1 z4.2.2.1) (iAnd .u32 (iNot .u32 z4.2.2.2.1) z4.2.1))) (IntKind.wrap .u32 (iShr .u64 (gSteps.getD (0 + k4) 0) 32))) ((itr (F34l3) 48 (itr (F34l2 p0 k1) 64 [0, 0, 0, 0, 0, 0, 0, 0, 0, 0, 0, 0, 0, 0, 0, 0, 0, 0, 0, 0, 0, 0, 0, 0, 0, 0, 0, 0, 0, 0, 0, 0, 0, 0, 0, 0, 0, 0, 0, 0, 0, 0, 0, 0, 0, 0, 0, 0, 0, 0, 0, 0, 0, 0, 0, 0, 0, 0, 0, 0, 0, 0, 0, 0])).getD k4 0)) (iAdd .u32 (iXor .u32 (iXor .u32 (F50 z4.2.2.2.2.2.2.2 30) (F50 z4.2.2.2.2.2.2.2 19)) (F50 z4.2.2.2.2.2.2.2 10)) (iXor .u32 (iXor .u32 (iAnd .u32 z4.2.2.2.2.2.2.2 z4.2.2.2.2.2.2.1) (iAnd .u32 z4.2.2.2.2.2.2.2 z4.2.2.2.2.2.1)) (iAnd .u32 z4.2.2.2.2.2.2.1 z4.2.2.2.2.2.1)))))), (6, .sc (.p 176 0)), (5, .sc (.sl 96 (0 + (64 * k1)) ((F49w64n0 p0) - (64 * k1)) 1 none)), (3, .sc (.p 32 0)), (2, .sc (.p 16 0))], [(176, .ints .u32 64 (itr (F34l3) 48 (itr (F34l2 p0 k1) 64 [0, 0, 0, 0, 0, 0, 0, 0, 0, 0, 0, 0, 0, 0, 0, 0, 0, 0, 0, 0, 0, 0, 0, 0, 0, 0, 0, 0, 0, 0, 0, 0, 0, 0, 0, 0, 0, 0, 0, 0, 0, 0, 0, 0, 0, 0, 0, 0, 0, 0, 0, 0, 0, 0, 0, 0, 0, 0, 0, 0, 0, 0, 0, 0]))), (96, .ints .u8 (F49w64n0 p0) (F49w64 p0)), (32, .ints .u32 8 z1), (16, .ints .u8 32 [0, 0, 0, 0, 0, 0, 0, 0, 0, 0, 0, 0, 0, 0, 0, 0, 0, 0, 0, 0, 0, 0, 0, 0, 0, 0, 0, 0, 0, 0, 0, 0])]) 1888 (pv pT (pl (show (iAdd .i64 ((k4 : Nat) : Int) 1) = ((k4 + 1 : Nat) : Int) from iAdd_nat (a := k4) (b := 1) (by omega))) (t1 pT)) ?_
 repeat (refine blkP_normal ?_)
 refine countP_normal (by omega) trivial ?_
 exact sp [(176, 176), (96, 96), (32, 32), (16, 16)] [119, 18, 17, 16, 15, 14, 13, 12, 11, 6, 5, 3, 2]
 have h5' := of_decide_eq_false h5
 refine Tri.exit ?_
 have hend4 : k4 = 64 := by (have := of_decide_eq_false h5; omega)
 subst hend4; subst hz4
 change Tri _ _ _ _ _ _
 refine sq [] none [193, 192, 5, 3, 2] [96, 32, 16] ([(193, .sc (.i .i64 0)), (192, .ints .u32 8 [(itr (F34l4 p0 k1) 64 (z1.getD 7 0, z1.getD 6 0, z1.getD 5 0, z1.getD 4 0, z1.getD 3 0, z1.getD 2 0, z1.getD 1 0, z1.getD 0 0)).2.2.2.2.2.2.2, (itr (F34l4 p0 k1) 64 (z1.getD 7 0, z1.getD 6 0, z1.getD 5 0, z1.getD 4 0, z1.getD 3 0, z1.getD 2 0, z1.getD 1 0, z1.getD 0 0)).2.2.2.2.2.2.1, (itr (F34l4 p0 k1) 64 (z1.getD 7 0, z1.getD 6 0, z1.getD 5 0, z1.getD 4 0, z1.getD 3 0, z1.getD 2 0, z1.getD 1 0, z1.getD 0 0)).2.2.2.2.2.1, (itr (F34l4 p0 k1) 64 (z1.getD 7 0, z1.getD 6 0, z1.getD 5 0, z1.getD 4 0, z1.getD 3 0, z1.getD 2 0, z1.getD 1 0, z1.getD 0 0)).2.2.2.2.1, (itr (F34l4 p0 k1) 64 (z1.getD 7 0, z1.getD 6 0, z1.getD 5 0, z1.getD 4 0, z1.getD 3 0, z1.getD 2 0, z1.getD 1 0, z1.getD 0 0)).2.2.2.1, (itr (F34l4 p0 k1) 64 (z1.getD 7 0, z1.getD 6 0, z1.getD 5 0, z1.getD 4 0, z1.getD 3 0, z1.getD 2 0, z1.getD 1 0, z1.getD 0 0)).2.2.1, (itr (F34l4 p0 k1) 64 (z1.getD 7 0, z1.getD 6 0, z1.getD 5 0, z1.getD 4 0, z1.getD 3 0, z1.getD 2 0, z1.getD 1 0, z1.getD 0 0)).2.1, (itr (F34l4 p0 k1) 64 (z1.getD 7 0, z1.getD 6 0, z1.getD 5 0, z1.getD 4 0, z1.getD 3 0, z1.getD 2 0, z1.getD 1 0, z1.getD 0 0)).1]), (5, .sc (.sl 96 (0 + (64 * k1)) ((F49w64n0 p0) - (64 * k1)) 1 none)), (3, .sc (.p 32 0)), (2, .sc (.p 16 0))], [(96, .ints .u8 (F49w64n0 p0) (F49w64 p0)), (32, .ints .u32 8 z1), (16, .ints .u8 32 [0, 0, 0, 0, 0, 0, 0, 0, 0, 0, 0, 0, 0, 0, 0, 0, 0, 0, 0, 0, 0, 0, 0, 0, 0, 0, 0, 0, 0, 0, 0, 0])]) 848 (t8 (pu (pa (pa (lo (0 < 8)) (lr (1 = 1))) (pa (pa (lo (1 < 8)) (lr (1 = 1))) (pa (pa (lo (2 < 8)) (lr (1 = 1))) (pa (pa (lo (3 < 8)) (lr (1 = 1))) (pa (pa (lo (4 < 8)) (lr (1 = 1))) (pa (pa (lo (5 < 8)) (lr (1 = 1))) (pa (pa (lo (6 < 8)) (lr (1 = 1))) (pa (pa (lo (7 < 8)) (lr (1 = 1))) pT)))))))) (t1 pT))) ?_
 refine Tri.block ?_
 refine Tri.count 848 8 (F34l5 p0 k1 z1) z1 (fun k5 z5 => True) (fun k5 z5 => ([(193, .sc (.i .i64 ((k5 : Nat) : Int))), (192, .ints .u32 8 [(itr (F34l4 p0 k1) 64 (z1.getD 7 0, z1.getD 6 0, z1.getD 5 0, z1.getD 4 0, z1.getD 3 0, z1.getD 2 0, z1.getD 1 0, z1.getD 0 0)).2.2.2.2.2.2.2, (itr (F34l4 p0 k1) 64 (z1.getD 7 0, z1.getD 6 0, z1.getD 5 0, z1.getD 4 0, z1.getD 3 0, z1.getD 2 0, z1.getD 1 0, z1.getD 0 0)).2.2.2.2.2.2.1, (itr (F34l4 p0 k1) 64 (z1.getD 7 0, z1.getD 6 0, z1.getD 5 0, z1.getD 4 0, z1.getD 3 0, z1.getD 2 0, z1.getD 1 0, z1.getD 0 0)).2.2.2.2.2.1, (itr (F34l4 p0 k1) 64 (z1.getD 7 0, z1.getD 6 0, z1.getD 5 0, z1.getD 4 0, z1.getD 3 0, z1.getD 2 0, z1.getD 1 0, z1.getD 0 0)).2.2.2.2.1, (itr (F34l4 p0 k1) 64 (z1.getD 7 0, z1.getD 6 0, z1.getD 5 0, z1.getD 4 0, z1.getD 3 0, z1.getD 2 0, z1.getD 1 0, z1.getD 0 0)).2.2.2.1, (itr (F34l4 p0 k1) 64 (z1.getD 7 0, z1.getD 6 0, z1.getD 5 0, z1.getD 4 0, z1.getD 3 0, z1.getD 2 0, z1.getD 1 0, z1.getD 0 0)).2.2.1, (itr (F34l4 p0 k1) 64 (z1.getD 7 0, z1.getD 6 0, z1.getD 5 0, z1.getD 4 0, z1.getD 3 0, z1.getD 2 0, z1.getD 1 0, z1.getD 0 0)).2.1, (itr (F34l4 p0 k1) 64 (z1.getD 7 0, z1.getD 6 0, z1.getD 5 0, z1.getD 4 0, z1.getD 3 0, z1.getD 2 0, z1.getD 1 0, z1.getD 0 0)).1]), (5, .sc (.sl 96 (0 + (64 * k1)) ((F49w64n0 p0) - (64 * k1)) 1 none)), (3, .sc (.p 32 0)), (2, .sc (.p 16 0))], [(96, .ints .u8 (F49w64n0 p0) (F49w64 p0)), (32, .ints .u32 8 z5), (16, .ints .u8 32 [0, 0, 0, 0, 0, 0, 0, 0, 0, 0, 0, 0, 0, 0, 0, 0, 0, 0, 0, 0, 0, 0, 0, 0, 0, 0, 0, 0, 0, 0, 0, 0])])) trivial (Sub.of_eq (by kernel_rfl)) ?_
 intro k5 z5 hk5 hz5 hJ5
 refine sq [] none [194, 193, 192, 5, 3, 2] [96, 32, 16] ([(194, .sc (.b (decide ((((k5 : Nat) : Int) : Int) < 8)))), (193, .sc (.i .i64 ((k5 : Nat) : Int))), (192, .ints .u32 8 [(itr (F34l4 p0 k1) 64 (z1.getD 7 0, z1.getD 6 0, z1.getD 5 0, z1.getD 4 0, z1.getD 3 0, z1.getD 2 0, z1.getD 1 0, z1.getD 0 0)).2.2.2.2.2.2.2, (itr (F34l4 p0 k1) 64 (z1.getD 7 0, z1.getD 6 0, z1.getD 5 0, z1.getD 4 0, z1.getD 3 0, z1.getD 2 0, z1.getD 1 0, z1.getD 0 0)).2.2.2.2.2.2.1, (itr (F34l4 p0 k1) 64 (z1.getD 7 0, z1.getD 6 0, z1.getD 5 0, z1.getD 4 0, z1.getD 3 0, z1.getD 2 0, z1.getD 1 0, z1.getD 0 0)).2.2.2.2.2.1, (itr (F34l4 p0 k1) 64 (z1.getD 7 0, z1.getD 6 0, z1.getD 5 0, z1.getD 4 0, z1.getD 3 0, z1.getD 2 0, z1.getD 1 0, z1.getD 0 0)).2.2.2.2.1, (itr (F34l4 p0 k1) 64 (z1.getD 7 0, z1.getD 6 0, z1.getD 5 0, z1.getD 4 0, z1.getD 3 0, z1.getD 2 0, z1.getD 1 0, z1.getD 0 0)).2.2.2.1, (itr (F34l4 p0 k1) 64 (z1.getD 7 0, z1.getD 6 0, z1.getD 5 0, z1.getD 4 0, z1.getD 3 0, z1.getD 2 0, z1.getD 1 0, z1.getD 0 0)).2.2.1, (itr (F34l4 p0 k1) 64 (z1.getD 7 0, z1.getD 6 0, z1.getD 5 0, z1.getD 4 0, z1.getD 3 0, z1.getD 2 0, z1.getD 1 0, z1.getD 0 0)).2.1, (itr (F34l4 p0 k1) 64 (z1.getD 7 0, z1.getD 6 0, z1.getD 5 0, z1.getD 4 0, z1.getD 3 0, z1.getD 2 0, z1.getD 1 0, z1.getD 0 0)).1]), (5, .sc (.sl 96 (0 + (64 * k1)) ((F49w64n0 p0) - (64 * k1)) 1 none)), (3, .sc (.p 32 0)), (2, .sc (.p 16 0))], [(96, .ints .u8 (F49w64n0 p0) (F49w64 p0)), (32, .ints .u32 8 z5), (16, .ints .u8 32 [0, 0, 0, 0, 0, 0, 0, 0, 0, 0, 0, 0, 0, 0, 0, 0, 0, 0, 0, 0, 0, 0, 0, 0, 0, 0, 0, 0, 0, 0, 0, 0])]) 864 (t1 pT) ?_
 refine Tri.seq ?_
 refine Tri.cond (x := (decide ((((k5 : Nat) : Int) : Int) < 8))) (by kernel_rfl) (fun h6 => ?_) (fun h6 => ?_)
 have h6' := of_decide_eq_true h6
 refine Tri.skip ?_
 change Tri _ _ _ _ _ _
 refine Tri.seq ?_
 refine Tri.block ?_
 refine sq [] none [23, 22, 193, 192, 5, 3, 2] [96, 32, 16] ([(23, .sc (.i .u32 ([(itr (F34l4 p0 k1) 64 (z1.getD 7 0, z1.getD 6 0, z1.getD 5 0, z1.getD 4 0, z1.getD 3 0, z1.getD 2 0, z1.getD 1 0, z1.getD 0 0)).2.2.2.2.2.2.2, (itr (F34l4 p0 k1) 64 (z1.getD 7 0, z1.getD 6 0, z1.getD 5 0, z1.getD 4 0, z1.getD 3 0, z1.getD 2 0, z1.getD 1 0, z1.getD 0 0)).2.2.2.2.2.2.1, (itr (F34l4 p0 k1) 64 (z1.getD 7 0, z1.getD 6 0, z1.getD 5 0, z1.getD 4 0, z1.getD 3 0, z1.getD 2 0, z1.getD 1 0, z1.getD 0 0)).2.2.2.2.2.1, (itr (F34l4 p0 k1) 64 (z1.getD 7 0, z1.getD 6 0, z1.getD 5 0, z1.getD 4 0, z1.getD 3 0, z1.getD 2 0, z1.getD 1 0, z1.getD 0 0)).2.2.2.2.1, (itr (F34l4 p0 k1) 64 (z1.getD 7 0, z1.getD 6 0, z1.getD 5 0, z1.getD 4 0, z1.getD 3 0, z1.getD 2 0, z1.getD 1 0, z1.getD 0 0)).2.2.2.1, (itr (F34l4 p0 k1) 64 (z1.getD 7 0, z1.getD 6 0, z1.getD 5 0, z1.getD 4 0, z1.getD 3 0, z1.getD 2 0, z1.getD 1 0, z1.getD 0 0)).2.2.1, (itr (F34l4 p0 k1) 64 (z1.getD 7 0, z1.getD 6 0, z1.getD 5 0, z1.getD 4 0, z1.getD 3 0, z1.getD 2 0, z1.getD 1 0, z1.getD 0 0)).2.1, (itr (F34l4 p0 k1) 64 (z1.getD 7 0, z1.getD 6 0, z1.getD 5 0, z1.getD 4 0, z1.getD 3 0, z1.getD 2 0, z1.getD 1 0, z1.getD 0 0)).1].getD k5 0))), (22, .sc (.i .i64 ((k5 : Nat) : Int))), (193, .sc (.i .i64 ((k5 : Nat) : Int))), (192, .ints .u32 8 [(itr (F34l4 p0 k1) 64 (z1.getD 7 0, z1.getD 6 0, z1.getD 5 0, z1.getD 4 0, z1.getD 3 0, z1.getD 2 0, z1.getD 1 0, z1.getD 0 0)).2.2.2.2.2.2.2, (itr (F34l4 p0 k1) 64 (z1.getD 7 0, z1.getD 6 0, z1.getD 5 0, z1.getD 4 0, z1.getD 3 0, z1.getD 2 0, z1.getD 1 0, z1.getD 0 0)).2.2.2.2.2.2.1, (itr (F34l4 p0 k1) 64 (z1.getD 7 0, z1.getD 6 0, z1.getD 5 0, z1.getD 4 0, z1.getD 3 0, z1.getD 2 0, z1.getD 1 0, z1.getD 0 0)).2.2.2.2.2.1, (itr (F34l4 p0 k1) 64 (z1.getD 7 0, z1.getD 6 0, z1.getD 5 0, z1.getD 4 0, z1.getD 3 0, z1.getD 2 0, z1.getD 1 0, z1.getD 0 0)).2.2.2.2.1, (itr (F34l4 p0 k1) 64 (z1.getD 7 0, z1.getD 6 0, z1.getD 5 0, z1.getD 4 0, z1.getD 3 0, z1.getD 2 0, z1.getD 1 0, z1.getD 0 0)).2.2.2.1, (itr (F34l4 p0 k1) 64 (z1.getD 7 0, z1.getD 6 0, z1.getD 5 0, z1.getD 4 0, z1.getD 3 0, z1.getD 2 0, z1.getD 1 0, z1.getD 0 0)).2.2.1, (itr (F34l4 p0 k1) 64 (z1.getD 7 0, z1.getD 6 0, z1.getD 5 0, z1.getD 4 0, z1.getD 3 0, z1.getD 2 0, z1.getD 1 0, z1.getD 0 0)).2.1, (itr (F34l4 p0 k1) 64 (z1.getD 7 0, z1.getD 6 0, z1.getD 5 0, z1.getD 4 0, z1.getD 3 0, z1.getD 2 0, z1.getD 1 0, z1.getD 0 0)).1]), (5, .sc (.sl 96 (0 + (64 * k1)) ((F49w64n0 p0) - (64 * k1)) 1 none)), (3, .sc (.p 32 0)), (2, .sc (.p 16 0))], [(96, .ints .u8 (F49w64n0 p0) (F49w64 p0)), (32, .ints .u32 8 z5), (16, .ints .u8 32 [0, 0, 0, 0, 0, 0, 0, 0, 0, 0, 0, 0, 0, 0, 0, 0, 0, 0, 0, 0, 0, 0, 0, 0, 0, 0, 0, 0, 0, 0, 0, 0])]) 928 (t1 (pu (pa (lo ((0 : Int) ≤ ((k5 : Nat) : Int) ∧ ((k5 : Nat) : Int) < ((8 : Nat) : Int))) (lo (k5 < 8))) (t2 pT))) ?_
 refine rq [] none [193, 192, 5, 3, 2] [32, 96, 16] ([(193, .sc (.i .i64 ((k5 : Nat) : Int))), (192, .ints .u32 8 [(itr (F34l4 p0 k1) 64 (z1.getD 7 0, z1.getD 6 0, z1.getD 5 0, z1.getD 4 0, z1.getD 3 0, z1.getD 2 0, z1.getD 1 0, z1.getD 0 0)).2.2.2.2.2.2.2, (itr (F34l4 p0 k1) 64 (z1.getD 7 0, z1.getD 6 0, z1.getD 5 0, z1.getD 4 0, z1.getD 3 0, z1.getD 2 0, z1.getD 1 0, z1.getD 0 0)).2.2.2.2.2.2.1, (itr (F34l4 p0 k1) 64 (z1.getD 7 0, z1.getD 6 0, z1.getD 5 0, z1.getD 4 0, z1.getD 3 0, z1.getD 2 0, z1.getD 1 0, z1.getD 0 0)).2.2.2.2.2.1, (itr (F34l4 p0 k1) 64 (z1.getD 7 0, z1.getD 6 0, z1.getD 5 0, z1.getD 4 0, z1.getD 3 0, z1.getD 2 0, z1.getD 1 0, z1.getD 0 0)).2.2.2.2.1, (itr (F34l4 p0 k1) 64 (z1.getD 7 0, z1.getD 6 0, z1.getD 5 0, z1.getD 4 0, z1.getD 3 0, z1.getD 2 0, z1.getD 1 0, z1.getD 0 0)).2.2.2.1, (itr (F34l4 p0 k1) 64 (z1.getD 7 0, z1.getD 6 0, z1.getD 5 0, z1.getD 4 0, z1.getD 3 0, z1.getD 2 0, z1.getD 1 0, z1.getD 0 0)).2.2.1, (itr (F34l4 p0 k1) 64 (z1.getD 7 0, z1.getD 6 0, z1.getD 5 0, z1.getD 4 0, z1.getD 3 0, z1.getD 2 0, z1.getD 1 0, z1.getD 0 0)).2.1, (itr (F34l4 p0 k1) 64 (z1.getD 7 0, z1.getD 6 0, z1.getD 5 0, z1.getD 4 0, z1.getD 3 0, z1.getD 2 0, z1.getD 1 0, z1.getD 0 0)).1]), (5, .sc (.sl 96 (0 + (64 * k1)) ((F49w64n0 p0) - (64 * k1)) 1 none)), (3, .sc (.p 32 0)), (2, .sc (.p 16 0))], [(32, .ints .u32 8 (z5.set k5 (iAdd .u32 (z5.getD k5 0) ([(itr (F34l4 p0 k1) 64 (z1.getD 7 0, z1.getD 6 0, z1.getD 5 0, z1.getD 4 0, z1.getD 3 0, z1.getD 2 0, z1.getD 1 0, z1.getD 0 0)).2.2.2.2.2.2.2, (itr (F34l4 p0 k1) 64 (z1.getD 7 0, z1.getD 6 0, z1.getD 5 0, z1.getD 4 0, z1.getD 3 0, z1.getD 2 0, z1.getD 1 0, z1.getD 0 0)).2.2.2.2.2.2.1, (itr (F34l4 p0 k1) 64 (z1.getD 7 0, z1.getD 6 0, z1.getD 5 0, z1.getD 4 0, z1.getD 3 0, z1.getD 2 0, z1.getD 1 0, z1.getD 0 0)).2.2.2.2.2.1, (itr (F34l4 p0 k1) 64 (z1.getD 7 0, z1.getD 6 0, z1.getD 5 0, z1.getD 4 0, z1.getD 3 0, z1.getD 2 0, z1.getD 1 0, z1.getD 0 0)).2.2.2.2.1, (itr (F34l4 p0 k1) 64 (z1.getD 7 0, z1.getD 6 0, z1.getD 5 0, z1.getD 4 0, z1.getD 3 0, z1.getD 2 0, z1.getD 1 0, z1.getD 0 0)).2.2.2.1, (itr (F34l4 p0 k1) 64 (z1.getD 7 0, z1.getD 6 0, z1.getD 5 0, z1.getD 4 0, z1.getD 3 0, z1.getD 2 0, z1.getD 1 0, z1.getD 0 0)).2.2.1, (itr (F34l4 p0 k1) 64 (z1.getD 7 0, z1.getD 6 0, z1.getD 5 0, z1.getD 4 0, z1.getD 3 0, z1.getD 2 0, z1.getD 1 0, z1.getD 0 0)).2.1, (itr (F34l4 p0 k1) 64 (z1.getD 7 0, z1.getD 6 0, z1.getD 5 0, z1.getD 4 0, z1.getD 3 0, z1.getD 2 0, z1.getD 1 0, z1.getD 0 0)).1].getD k5 0)))), (96, .ints .u8 (F49w64n0 p0) (F49w64 p0)), (16, .ints .u8 32 [0, 0, 0, 0, 0, 0, 0, 0, 0, 0, 0, 0, 0, 0, 0, 0, 0, 0, 0, 0, 0, 0, 0, 0, 0, 0, 0, 0, 0, 0, 0, 0])]) 1040 (t1 (pu (lo ((0 : Int) ≤ ((k5 : Nat) : Int) ∧ ((k5 : Nat) : Int) < ((8 : Nat) : Int))) (pu (lo (k5 < 8)) (t2 (pu (lo ((0 : Int) ≤ ((k5 : Nat) : Int) ∧ ((k5 : Nat) : Int) < ((8 : Nat) : Int))) (pu (pa (lo (k5 < 8)) (lr (1 = 1))) pT)))))) ?_
 change Tri _ _ _ _ _ _
 refine rq [(203, qi ((k5 + 1 : Nat) : Int))] none [193, 192, 5, 3, 2] [32, 96, 16] ([(193, .sc (.i .i64 ((k5 + 1 : Nat) : Int))), (192, .ints .u32 8 [(itr (F34l4 p0 k1) 64 (z1.getD 7 0, z1.getD 6 0, z1.getD 5 0, z1.getD 4 0, z1.getD 3 0, z1.getD 2 0, z1.getD 1 0, z1.getD 0 0)).2.2.2.2.2.2.2, (itr (F34l4 p0 k1) 64 (z1.getD 7 0, z1.getD 6 0, z1.getD 5 0, z1.getD 4 0, z1.getD 3 0, z1.getD 2 0, z1.getD 1 0, z1.getD 0 0)).2.2.2.2.2.2.1, (itr (F34l4 p0 k1) 64 (z1.getD 7 0, z1.getD 6 0, z1.getD 5 0, z1.getD 4 0, z1.getD 3 0, z1.getD 2 0, z1.getD 1 0, z1.getD 0 0)).2.2.2.2.2.1, (itr (F34l4 p0 k1) 64 (z1.getD 7 0, z1.getD 6 0, z1.getD 5 0, z1.getD 4 0, z1.getD 3 0, z1.getD 2 0, z1.getD 1 0, z1.getD 0 0)).2.2.2.2.1, (itr (F34l4 p0 k1) 64 (z1.getD 7 0, z1.getD 6 0, z1.getD 5 0, z1.getD 4 0, z1.getD 3 0, z1.getD 2 0, z1.getD 1 0, z1.getD 0 0)).2.2.2.1, (itr (F34l4 p0 k1) 64 (z1.getD 7 0, z1.getD 6 0, z1.getD 5 0, z1.getD 4 0, z1.getD 3 0, z1.getD 2 0, z1.getD 1 0, z1.getD 0 0)).2.2.1, (itr (F34l4 p0 k1) 64 (z1.getD 7 0, z1.getD 6 0, z1.getD 5 0, z1.getD 4 0, z1.getD 3 0, z1.getD 2 0, z1.getD 1 0, z1.getD 0 0)).2.1, (itr (F34l4 p0 k1) 64 (z1.getD 7 0, z1.getD 6 0, z1.getD 5 0, z1.getD 4 0, z1.getD 3 0, z1.getD 2 0, z1.getD 1 0, z1.getD 0 0)).1]), (5, .sc (.sl 96 (0 + (64 * k1)) ((F49w64n0 p0) - (64 * k1)) 1 none)), (3, .sc (.p 32 0)), (2, .sc (.p 16 0))], [(32, .ints .u32 8 (z5.set k5 (iAdd .u32 (z5.getD k5 0) ([(itr (F34l4 p0 k1) 64 (z1.getD 7 0, z1.getD 6 0, z1.getD 5 0, z1.getD 4 0, z1.getD 3 0, z1.getD 2 0, z1.getD 1 0, z1.getD 0 0)).2.2.2.2.2.2.2, (itr (F34l4 p0 k1) 64 (z1.getD 7 0, z1.getD 6 0, z1.getD 5 0, z1.getD 4 0, z1.getD 3 0, z1.getD 2 0, z1.getD 1 0, z1.getD 0 0)).2.2.2.2.2.2.1, (itr (F34l4 p0 k1) 64 (z1.getD 7 0, z1.getD 6 0, z1.getD 5 0, z1.getD 4 0, z1.getD 3 0, z1.getD 2 0, z1.getD 1 0, z1.getD 0 0)).2.2.2.2.2.1, (itr (F34l4 p0 k1) 64 (z1.getD 7 0, z1.getD 6 0, z1.getD 5 0, z1.getD 4 0, z1.getD 3 0, z1.getD 2 0, z1.getD 1 0, z1.getD 0 0)).2.2.2.2.1, (itr (F34l4 p0 k1) 64 (z1.getD 7 0, z1.getD 6 0, z1.getD 5 0, z1.getD 4 0, z1.getD 3 0, z1.getD 2 0, z1.getD 1 0, z1.getD 0 0)).2.2.2.1, (itr (F34l4 p0 k1) 64 (z1.getD 7 0, z1.getD 6 0, z1.getD 5 0, z1.getD 4 0, z1.getD 3 0, z1.getD 2 0, z1.getD 1 0, z1.getD 0 0)).2.2.1, (itr (F34l4 p0 k1) 64 (z1.getD 7 0, z1.getD 6 0, z1.getD 5 0, z1.getD 4 0, z1.getD 3 0, z1.getD 2 0, z1.getD 1 0, z1.getD 0 0)).2.1, (itr (F34l4 p0 k1) 64 (z1.getD 7 0, z1.getD 6 0, z1.getD 5 0, z1.getD 4 0, z1.getD 3 0, z1.getD 2 0, z1.getD 1 0, z1.getD 0 0)).1].getD k5 0)))), (96, .ints .u8 (F49w64n0 p0) (F49w64 p0)), (16, .ints .u8 32 [0, 0, 0, 0, 0, 0, 0, 0, 0, 0, 0, 0, 0, 0, 0, 0, 0, 0, 0, 0, 0, 0, 0, 0, 0, 0, 0, 0, 0, 0, 0, 0])]) 1072 (pv pT (pl (show (iAdd .i64 ((k5 : Nat) : Int) 1) = ((k5 + 1 : Nat) : Int) from iAdd_nat (a := k5) (b := 1) (by omega))) (t1 pT)) ?_
 repeat (refine blkP_normal ?_)
 refine countP_normal (by omega) trivial ?_
 exact sp [(96, 96), (32, 32), (16, 16)] [193, 192, 5, 3, 2]
 have h6' := of_decide_eq_false h6
 refine Tri.exit ?_
 have hend5 : k5 = 8 := by (have := of_decide_eq_false h6; omega)
 subst hend5; subst hz5
 change Tri _ _ _ _ _ _
 refine rq [] none [5, 3, 2] [96, 32, 16] ([(5, .sc (.sl 96 ((0 + (64 * k1)) + 64) (((F49w64n0 p0) - (64 * k1)) - 64) 1 none)), (3, .sc (.p 32 0)), (2, .sc (.p 16 0))], [(96, .ints .u8 (F49w64n0 p0) (F49w64 p0)), (32, .ints .u32 8 (itr (F34l5 p0 k1 z1) 8 z1)), (16, .ints .u8 32 [0, 0, 0, 0, 0, 0, 0, 0, 0, 0, 0, 0, 0, 0, 0, 0, 0, 0, 0, 0, 0, 0, 0, 0, 0, 0, 0, 0, 0, 0, 0, 0])]) 912 (t1 (pu (lo ((0 : Int) ≤ 64 ∧ (64 : Int) ≤ (((F49w64n0 p0) - (64 * k1) : Nat) : Int) ∧ (((F49w64n0 p0) - (64 * k1) : Nat) : Int) ≤ (((F49w64n0 p0) - (64 * k1) : Nat) : Int))) (t1 pT))) ?_
 repeat (refine blkP_normal ?_)
 refine countP_normal (by omega) trivial ?_
 exact sp [(96, 96), (32, 32), (16, 16)] [5, 3, 2]
 have h2' := of_decide_eq_false h2
 refine Tri.exit ?_
 have hend1 : k1 = ((F49w64n0 p0) / 64) := by (have := of_decide_eq_false h2; omega)
 subst hend1; subst hz1
 change Tri _ _ _ _ _ _
 refine sq [] none [24, 3, 2] [176, 32, 16] ([(24, .sc (.p 176 0)), (3, .sc (.p 32 0)), (2, .sc (.p 16 0))], [(176, .ints .u8 32 [0, 0, 0, 0, 0, 0, 0, 0, 0, 0, 0, 0, 0, 0, 0, 0, 0, 0, 0, 0, 0, 0, 0, 0, 0, 0, 0, 0, 0, 0, 0, 0]), (32, .ints .u32 8 (itr (F34l1 p0) ((F49w64n0 p0) / 64) (itr (F34l0) 8 [0, 0, 0, 0, 0, 0, 0, 0]))), (16, .ints .u8 32 [0, 0, 0, 0, 0, 0, 0, 0, 0, 0, 0, 0, 0, 0, 0, 0, 0, 0, 0, 0, 0, 0, 0, 0, 0, 0, 0, 0, 0, 0, 0, 0])]) 192 (t1 pT) ?_
 refine Tri.seq ?_
 refine sq [] none [204, 24, 3, 2] [176, 32, 16] ([(204, .sc (.i .i64 0)), (24, .sc (.p 176 0)), (3, .sc (.p 32 0)), (2, .sc (.p 16 0))], [(176, .ints .u8 32 [0, 0, 0, 0, 0, 0, 0, 0, 0, 0, 0, 0, 0, 0, 0, 0, 0, 0, 0, 0, 0, 0, 0, 0, 0, 0, 0, 0, 0, 0, 0, 0]), (32, .ints .u32 8 (itr (F34l1 p0) ((F49w64n0 p0) / 64) (itr (F34l0) 8 [0, 0, 0, 0, 0, 0, 0, 0]))), (16, .ints .u8 32 [0, 0, 0, 0, 0, 0, 0, 0, 0, 0, 0, 0, 0, 0, 0, 0, 0, 0, 0, 0, 0, 0, 0, 0, 0, 0, 0, 0, 0, 0, 0, 0])]) 208 (t1 pT) ?_
 refine Tri.block ?_
 refine Tri.count 208 32 (F34l6 p0) [0, 0, 0, 0, 0, 0, 0, 0, 0, 0, 0, 0, 0, 0, 0, 0, 0, 0, 0, 0, 0, 0, 0, 0, 0, 0, 0, 0, 0, 0, 0, 0] (fun k6 z6 => True) (fun k6 z6 => ([(204, .sc (.i .i64 ((k6 : Nat) : Int))), (24, .sc (.p 176 0)), (3, .sc (.p 32 0)), (2, .sc (.p 16 0))], [(176, .ints .u8 32 z6), (32, .ints .u32 8 (itr (F34l1 p0) ((F49w64n0 p0) / 64) (itr (F34l0) 8 [0, 0, 0, 0, 0, 0, 0, 0]))), (16, .ints .u8 32 [0, 0, 0, 0, 0, 0, 0, 0, 0, 0, 0, 0, 0, 0, 0, 0, 0, 0, 0, 0, 0, 0, 0, 0, 0, 0, 0, 0, 0, 0, 0, 0])])) trivial (Sub.of_eq (by kernel_rfl)) ?_
 intro k6 z6 hk6 hz6 hJ6
 refine sq [] none [205, 204, 24, 3, 2] [176, 32, 16] ([(205, .sc (.b (decide ((((k6 : Nat) : Int) : Int) < 32)))), (204, .sc (.i .i64 ((k6 : Nat) : Int))), (24, .sc (.p 176 0)), (3, .sc (.p 32 0)), (2, .sc (.p 16 0))], [(176, .ints .u8 32 z6), (32, .ints .u32 8 (itr (F34l1 p0) ((F49w64n0 p0) / 64) (itr (F34l0) 8 [0, 0, 0, 0, 0, 0, 0, 0]))), (16, .ints .u8 32 [0, 0, 0, 0, 0, 0, 0, 0, 0, 0, 0, 0, 0, 0, 0, 0, 0, 0, 0, 0, 0, 0, 0, 0, 0, 0, 0, 0, 0, 0, 0, 0])]) 224 (t1 pT) ?_
 refine Tri.seq ?_
 refine Tri.cond (x := (decide ((((k6 : Nat) : Int) : Int) < 32))) (by kernel_rfl) (fun h7 => ?_) (fun h7 => ?_)
 have h7' := of_decide_eq_true h7
 refine Tri.skip ?_
 change Tri _ _ _ _ _ _
 refine Tri.seq ?_
 refine Tri.block ?_
 refine sq [] none [25, 204, 24, 3, 2] [176, 32, 16] ([(25, .sc (.i .i64 ((k6 : Nat) : Int))), (204, .sc (.i .i64 ((k6 : Nat) : Int))), (24, .sc (.p 176 0)), (3, .sc (.p 32 0)), (2, .sc (.p 16 0))], [(176, .ints .u8 32 z6), (32, .ints .u32 8 (itr (F34l1 p0) ((F49w64n0 p0) / 64) (itr (F34l0) 8 [0, 0, 0, 0, 0, 0, 0, 0]))), (16, .ints .u8 32 [0, 0, 0, 0, 0, 0, 0, 0, 0, 0, 0, 0, 0, 0, 0, 0, 0, 0, 0, 0, 0, 0, 0, 0, 0, 0, 0, 0, 0, 0, 0, 0])]) 256 (t2 pT) ?_
 refine rq [(209, qi ((k6 / 4 : Nat) : Int)), (213, qi ((k6 % 4 : Nat) : Int)), (214, qi ((8 * (k6 % 4) : Nat) : Int)), (215, qi ((24 - (8 * (k6 % 4)) : Nat) : Int))] none [204, 24, 3, 2] [176, 32, 16] ([(204, .sc (.i .i64 ((k6 : Nat) : Int))), (24, .sc (.p 176 0)), (3, .sc (.p 32 0)), (2, .sc (.p 16 0))], [(176, .ints .u8 32 (z6.set k6 (IntKind.wrap .u8 (iShr .u32 ((itr (F34l1 p0) ((F49w64n0 p0) / 64) (itr (F34l0) 8 [0, 0, 0, 0, 0, 0, 0, 0])).getD (k6 / 4) 0) ((24 - (8 * (k6 % 4)) : Nat) : Int))))), (32, .ints .u32 8 (itr (F34l1 p0) ((F49w64n0 p0) / 64) (itr (F34l0) 8 [0, 0, 0, 0, 0, 0, 0, 0]))), (16, .ints .u8 32 [0, 0, 0, 0, 0, 0, 0, 0, 0, 0, 0, 0, 0, 0, 0, 0, 0, 0, 0, 0, 0, 0, 0, 0, 0, 0, 0, 0, 0, 0, 0, 0])]) 464 (t2 (pv (lo (4 ≠ (0 : Int))) (pl (show (iQuo .i64 ((k6 : Nat) : Int) 4) = ((k6 / 4 : Nat) : Int) from iQuo_nat (a := k6) (b := 4) (by omega))) (pu (lo ((0 : Int) ≤ ((k6 / 4 : Nat) : Int) ∧ ((k6 / 4 : Nat) : Int) < ((8 : Nat) : Int))) (pu (lo (k6 / 4 < 8)) (t1 (pv (lo (4 ≠ (0 : Int))) (pl (show (iRem ((k6 : Nat) : Int) 4) = ((k6 % 4 : Nat) : Int) from iRem_nat (a := k6) (b := 4))) (pv pT (pl (show (iMul .i64 8 ((k6 % 4 : Nat) : Int)) = ((8 * (k6 % 4) : Nat) : Int) from iMul_nat (a := 8) (b := k6 % 4) (by omega))) (pv pT (pl (show (iSub .i64 24 ((8 * (k6 % 4) : Nat) : Int)) = ((24 - (8 * (k6 % 4)) : Nat) : Int) from iSub_nat (a := 24) (b := 8 * (k6 % 4)) (by omega) (by omega))) (pu (lo ((0 : Int) ≤ ((24 - (8 * (k6 % 4)) : Nat) : Int))) (t1 (pu (lo ((0 : Int) ≤ ((k6 : Nat) : Int) ∧ ((k6 : Nat) : Int) < ((32 : Nat) : Int))) (pu (pa (lo (k6 < 32)) (lr (1 = 1))) pT)))))))))))) ?_
 change Tri _ _ _ _ _ _
 refine rq [(219, qi ((k6 + 1 : Nat) : Int))] none [204, 24, 3, 2] [176, 32, 16] ([(204, .sc (.i .i64 ((k6 + 1 : Nat) : Int))), (24, .sc (.p 176 0)), (3, .sc (.p 32 0)), (2, .sc (.p 16 0))], [(176, .ints .u8 32 (z6.set k6 (IntKind.wrap .u8 (iShr .u32 ((itr (F34l1 p0) ((F49w64n0 p0) / 64) (itr (F34l0) 8 [0, 0, 0, 0, 0, 0, 0, 0])).getD (k6 / 4) 0) ((24 - (8 * (k6 % 4)) : Nat) : Int))))), (32, .ints .u32 8 (itr (F34l1 p0) ((F49w64n0 p0) / 64) (itr (F34l0) 8 [0, 0, 0, 0, 0, 0, 0, 0]))), (16, .ints .u8 32 [0, 0, 0, 0, 0, 0, 0, 0, 0, 0, 0, 0, 0, 0, 0, 0, 0, 0, 0, 0, 0, 0, 0, 0, 0, 0, 0, 0, 0, 0, 0, 0])]) 496 (pv pT (pl (show (iAdd .i64 ((k6 : Nat) : Int) 1) = ((k6 + 1 : Nat) : Int) from iAdd_nat (a := k6) (b := 1) (by omega))) (t1 pT)) ?_
 repeat (refine blkP_normal ?_)
 refine countP_normal (by omega) trivial ?_
 exact sp [(176, 176), (32, 32), (16, 16)] [204, 24, 3, 2]
 have h7' := of_decide_eq_false h7
 refine Tri.exit ?_
 have hend6 : k6 = 32 := by (have := of_decide_eq_false h7; omega)
 subst hend6; subst hz6
 change Tri _ _ _ _ _ _
 refine sq [] none [2] [16] ([(2, .sc (.p 16 0))], [(16, .ints .u8 32 (itr (F34l6 p0) 32 [0, 0, 0, 0, 0, 0, 0, 0, 0, 0, 0, 0, 0, 0, 0, 0, 0, 0, 0, 0, 0, 0, 0, 0, 0, 0, 0, 0, 0, 0, 0, 0]))]) 256 (t1 (pu (pa pT (lr (32 = 32))) pT)) ?_
 refine Tri.ret ?_
 refine rt ?_
 exact er [] pz
noncomputable def S52 : List AV → List Blk → Option (Prop × Ret)
  | [], [] => some (True, ⟨.ints .u64 8 [7640891576956012808, 13503953896175478587, 4354685564936845355, 11912009170470909681, 5840696475078001361, 11170449401992604703, 2270897969802886507, 6620516959819538809], []⟩)
  | _, _ => none
noncomputable def B52 : Bs := { P := Go.Proofs.Tryd.prog, G := gD, tab := tabOf [], n := 2 }
theorem B52.ok : B52.Ok := ⟨tabOk (P := Go.Proofs.Tryd.prog) (G := gD) (l := []) True.intro, mixed⟩
theorem K52 : Known Go.Proofs.Tryd.prog gD 75 ⟨0, 0, S52⟩ := by
 refine Known.walk (B := B52) (fn := Go.Proofs.Tryd.f75) B52.ok (by kernel_rfl) rfl (by kernel_rfl) (by kernel_rfl) (by decide) (by decide) ?_
 intro E args ks C r h hC hlen
 simp only at h
 unfold S52 at h
 split at h
 rotate_left
 cases h
 skip
 cases h
 simp only [lens] at hlen
 refine ⟨show 0 ≤ 2 from by decide, ?_⟩
 refine Tri.sub (Sub.of_eq (show _ = ([], []) from rfl)) ?_
 refine sq [] none [0] [16] ([(0, .sc (.p 16 0))], [(16, .ints .u64 8 [0, 0, 0, 0, 0, 0, 0, 0])]) 32 (t1 pT) ?_
 refine sq [] none [0] [16] ([(0, .sc (.p 16 0))], [(16, .ints .u64 8 [7640891576956012808, 13503953896175478587, 4354685564936845355, 11912009170470909681, 5840696475078001361, 11170449401992604703, 2270897969802886507, 6620516959819538809])]) 64 (pu (pa (pa (lo (0 < 8)) (lr (1 = 1))) (pa (pa (lo (1 < 8)) (lr (1 = 1))) (pa (pa (lo (2 < 8)) (lr (1 = 1))) (pa (pa (lo (3 < 8)) (lr (1 = 1))) (pa (pa (lo (4 < 8)) (lr (1 = 1))) (pa (pa (lo (5 < 8)) (lr (1 = 1))) (pa (pa (lo (6 < 8)) (lr (1 = 1))) (pa (pa (lo (7 < 8)) (lr (1 = 1))) pT)))))))) (pu (pa pT (lr (8 = 8))) pT)) ?_
 refine Tri.ret ?_
 refine rt ?_
 exact er [] pz
noncomputable def F53 : List Int :=
  [4794697086780616226, 8158064640168781261, 13096744586834688815, 16840607885511220156, 4131703408338449720, 6480981068601479193, 10538285296894168987, 12329834152419229976, 15566598209576043074, 1334009975649890238, 2608012711638119052, 6128411473006802146, 8268148722764581231, 9286055187155687089, 11230858885718282805, 13951009754708518548, 16472876342353939154, 17275323862435702243, 1135362057144423861, 2597628984639134821, 3308224258029322869, 5365058923640841347, 6679025012923562964, 8573033837759648693, 10970295158949994411, 12119686244451234320, 12683024718118986047, 13788192230050041572, 14330467153632333762, 15395433587784984357, 489312712824947311, 1452737877330783856, 2861767655752347644, 3322285676063803686, 5560940570517711597, 5996557281743188959, 7280758554555802590, 8532644243296465576, 9350256976987008742, 10552545826968843579, 11727347734174303076, 12113106623233404929, 14000437183269869457, 14369950271660146224, 15101387698204529176, 15463397548674623760, 17586052441742319658, 1182934255886127544, 1847814050463011016, 2177327727835720531, 2830643537854262169, 3796741975233480872, 4115178125766777443, 5681478168544905931, 6601373596472566643, 7507060721942968483, 8399075790359081724, 8693463985226723168, 9568029438360202098, 10144078919501101548, 10430055236837252648, 11840083180663258601, 13761210420658862357, 14299343276471374635, 14566680578165727644, 15097957966210449927, 16922976911328602910, 17689382322260857208, 500013540394364858, 748580250866718886, 1242879168328830382, 1977374033974150939, 2944078676154940804, 3659926193048069267, 4368137639120453308, 4836135668995329356, 5532061633213252278, 6448918945643986474, 6902733635092675308, 7801388544844847127]
noncomputable def S53 : List AV → List Blk → Option (Prop × Ret)
  | [], [] => some (True, ⟨.ints .u64 80 (F53), []⟩)
  | _, _ => none
noncomputable def B53 : Bs := { P := Go.Proofs.Tryd.prog, G := gD, tab := tabOf [], n := 2 }
theorem B53.ok : B53.Ok := ⟨tabOk (P := Go.Proofs.Tryd.prog) (G := gD) (l := []) True.intro, mixed⟩
theorem K53 : Known Go.Proofs.Tryd.prog gD 76 ⟨0, 0, S53⟩ := by
 refine Known.walk (B := B53) (fn := Go.Proofs.Tryd.f76) B53.ok (by kernel_rfl) rfl (by kernel_rfl) (by kernel_rfl) (by decide) (by decide) ?_
 intro E args ks C r h hC hlen
 simp only at h
 unfold S53 at h
 split at h
 rotate_left
 cases h
 skip
 cases h
 simp only [lens] at hlen
 refine ⟨show 0 ≤ 2 from by decide, ?_⟩
 refine Tri.sub (Sub.of_eq (show _ = ([], []) from rfl)) ?_
 refine sq [] none [0] [16] ([(0, .sc (.p 16 0))], [(16, .ints .u64 80 [0, 0, 0, 0, 0, 0, 0, 0, 0, 0, 0, 0, 0, 0, 0, 0, 0, 0, 0, 0, 0, 0, 0, 0, 0, 0, 0, 0, 0, 0, 0, 0, 0, 0, 0, 0, 0, 0, 0, 0, 0, 0, 0, 0, 0, 0, 0, 0, 0, 0, 0, 0, 0, 0, 0, 0, 0, 0, 0, 0, 0, 0, 0, 0, 0, 0, 0, 0, 0, 0, 0, 0, 0, 0, 0, 0, 0, 0, 0, 0])]) 32 (t1 pT) ?_
 refine sq [] none [0] [16] ([(0, .sc (.p 16 0))], [(16, .ints .u64 80 [4794697086780616226, 8158064640168781261, 13096744586834688815, 16840607885511220156, 4131703408338449720, 6480981068601479193, 10538285296894168987, 12329834152419229976, 15566598209576043074, 1334009975649890238, 2608012711638119052, 6128411473006802146, 8268148722764581231, 9286055187155687089, 11230858885718282805, 13951009754708518548, 16472876342353939154, 17275323862435702243, 1135362057144423861, 2597628984639134821, 3308224258029322869, 5365058923640841347, 6679025012923562964, 8573033837759648693, 10970295158949994411, 12119686244451234320, 12683024718118986047, 13788192230050041572, 14330467153632333762, 15395433587784984357, 489312712824947311, 1452737877330783856, 2861767655752347644, 3322285676063803686, 5560940570517711597, 5996557281743188959, 7280758554555802590, 8532644243296465576, 9350256976987008742, 10552545826968843579, 11727347734174303076, 12113106623233404929, 14000437183269869457, 14369950271660146224, 15101387698204529176, 15463397548674623760, 17586052441742319658, 1182934255886127544, 1847814050463011016, 2177327727835720531, 2830643537854262169, 3796741975233480872, 4115178125766777443, 5681478168544905931, 6601373596472566643, 7507060721942968483, 8399075790359081724, 8693463985226723168, 9568029438360202098, 10144078919501101548, 10430055236837252648, 11840083180663258601, 13761210420658862357, 14299343276471374635, 14566680578165727644, 15097957966210449927, 16922976911328602910, 17689382322260857208, 500013540394364858, 748580250866718886, 1242879168328830382, 1977374033974150939, 2944078676154940804, 3659926193048069267, 4368137639120453308, 4836135668995329356, 5532061633213252278, 6448918945643986474, 6902733635092675308, 7801388544844847127])]) 64 (pu (pa (pa (lo (0 < 80)) (lr (1 = 1))) (pa (pa (lo (1 < 80)) (lr (1 = 1))) (pa (pa (lo (2 < 80)) (lr (1 = 1))) (pa (pa (lo (3 < 80)) (lr (1 = 1))) (pa (pa (lo (4 < 80)) (lr (1 = 1))) (pa (pa (lo (5 < 80)) (lr (1 = 1))) (pa (pa (lo (6 < 80)) (lr (1 = 1))) (pa (pa (lo (7 < 80)) (lr (1 = 1))) (pa (pa (lo (8 < 80)) (lr (1 = 1))) (pa (pa (lo (9 < 80)) (lr (1 = 1))) (pa (pa (lo (10 < 80)) (lr (1 = 1))) (pa (pa (lo (11 < 80)) (lr (1 = 1))) (pa (pa (lo (12 < 80)) (lr (1 = 1))) (pa (pa (lo (13 < 80)) (lr (1 = 1))) (pa (pa (lo (14 < 80)) (lr (1 = 1))) (pa (pa (lo (15 < 80)) (lr (1 = 1))) (pa (pa (lo (16 < 80)) (lr (1 = 1))) (pa (pa (lo (17 < 80)) (lr (1 = 1))) (pa (pa (lo (18 < 80)) (lr (1 = 1))) (pa (pa (lo (19 < 80)) (lr (1 = 1))) (pa (pa (lo (20 < 80)) (lr (1 = 1))) (pa (pa (lo (21 < 80)) (lr (1 = 1))) (pa (pa (lo (22 < 80)) (lr (1 = 1))) (pa (pa (lo (23 < 80)) (lr (1 = 1))) (pa (pa (lo (24 < 80)) (lr (1 = 1))) (pa (pa (lo (25 < 80)) (lr (1 = 1))) (pa (pa (lo (26 < 80)) (lr (1 = 1))) (pa (pa (lo (27 < 80)) (lr (1 = 1))) (pa (pa (lo (28 < 80)) (lr (1 = 1))) (pa (pa (lo (29 < 80)) (lr (1 = 1))) (pa (pa (lo (30 < 80)) (lr (1 = 1))) (pa (pa (lo (31 < 80)) (lr (1 = 1))) (pa (pa (lo (32 < 80)) (lr (1 = 1))) (pa (pa (lo (33 < 80)) (lr (1 = 1))) (pa (pa (lo (34 < 80)) (lr (1 = 1))) (pa (pa (lo (35 < 80)) (lr (1 = 1))) (pa (pa (lo (36 < 80)) (lr (1 = 1))) (pa (pa (lo (37 < 80)) (lr (1 = 1))) (pa (pa (lo (38 < 80)) (lr (1 = 1))) (pa (pa (lo (39 < 80)) (lr (1 = 1))) (pa (pa (lo (40 < 80)) (lr (1 = 1))) (pa (pa (lo (41 < 80)) (lr (1 = 1))) (pa (pa (lo (42 < 80)) (lr (1 = 1))) (pa (pa (lo (43 < 80)) (lr (1 = 1))) (pa (pa (lo (44 < 80)) (lr (1 = 1))) (pa (pa (lo (45 < 80)) (lr (1 = 1))) (pa (pa (lo (46 < 80)) (lr (1 = 1))) (pa (pa (lo (47 < 80)) (lr (1 = 1))) (pa (pa (lo (48 < 80)) (lr (1 = 1))) (pa (pa (lo (49 < 80)) (lr (1 = 1))) (pa (pa (lo (50 < 80)) (lr (1 = 1))) (pa (pa (lo (51 < 80)) (lr (1 = 1))) (pa (pa (lo (52 < 80)) (lr (1 = 1))) (pa (pa (lo (53 < 80)) (lr (1 = 1))) (pa (pa (lo (54 < 80)) (lr (1 = 1))) (pa (pa (lo (55 < 80)) (lr (1 = 1))) (pa (pa (lo (56 < 80)) (lr (1 = 1))) (pa (pa (lo (57 < 80)) (lr (1 = 1))) (pa (pa (lo (58 < 80)) (lr (1 = 1))) (pa (pa (lo (59 < 80)) (lr (1 = 1))) (pa (pa (lo (60 < 80)) (lr (1 = 1))) (pa (pa (lo (61 < 80)) (lr (1 = 1))) (pa (pa (lo (62 < 80)) (lr (1 = 1))) (pa (pa (lo (63 < 80)) (lr (1 = 1))) (pa (pa (lo (64 < 80)) (lr (1 = 1))) (pa (pa (lo (65 < 80)) (lr (1 = 1))) (pa (pa (lo (66 < 80)) (lr (1 = 1))) (pa (pa (lo (67 < 80)) (lr (1 = 1))) (pa (pa (lo (68 < 80)) (lr (1 = 1))) (pa (pa (lo (69 < 80)) (lr (1 = 1))) (pa (pa (lo (70 < 80)) (lr (1 = 1))) (pa (pa (lo (71 < 80)) (lr (1 = 1))) (pa (pa (lo (72 < 80)) (lr (1 = 1))) (pa (pa (lo (73 < 80)) (lr (1 = 1))) (pa (pa (lo (74 < 80)) (lr (1 = 1))) (pa (pa (lo (75 < 80)) (lr (1 = 1))) (pa (pa (lo (76 < 80)) (lr (1 = 1))) (pa (pa (lo (77 < 80)) (lr (1 = 1))) (pa (pa (lo (78 < 80)) (lr (1 = 1))) (pa (pa (lo (79 < 80)) (lr (1 = 1))) pT)))))))))))))))))))))))))))))))))))))))))))))))))))))))))))))))))))))))))))))))) (pu (pa pT (lr (80 = 80))) pT)) ?_
 refine Tri.ret ?_
 refine rt ?_
 exact er [] pz
noncomputable def F60w32 (p0 : Int) (p1 : Int) : Int :=
  (iAnd .u64 (iAdd .u64 (iShr .u64 p0 p1) (iShl .u64 p0 (iSub .i64 32 p1))) 4294967295)
noncomputable def S60w32 : List AV → List Blk → Option (Prop × Ret)
  | [.sc (.i .u64 p0), .sc (.i .i64 p1), .sc (.i .i64 p2)], [] => some ((((32 : Int) = p2) ∧ ((0 : Int) ≤ p1 ∧ p1 ≤ 32)), ⟨.sc (.i .u64 (F60w32 p0 p1)), []⟩)
  | _, _ => none
noncomputable def B60w32 : Bs := { P := Go.Proofs.Tryd.prog, G := gD, tab := tabOf [], n := 26 }
theorem B60w32.ok : B60w32.Ok := ⟨tabOk (P := Go.Proofs.Tryd.prog) (G := gD) (l := []) True.intro, mixed⟩
theorem K60w32 : Known Go.Proofs.Tryd.prog gD 82 ⟨0, 0, S60w32⟩ := by
 refine Known.walk (B := B60w32) (fn := Go.Proofs.Tryd.f82) B60w32.ok (by kernel_rfl) rfl (by kernel_rfl) (by kernel_rfl) (by decide) (by decide) ?_
 intro E args ks C r h hC hlen
 simp only at h
 unfold S60w32 at h
 split at h
 rotate_left
 cases h
 rename_i p0 p1 p2
 cases h
 simp only [lens] at hlen
 obtain ⟨hEp2, hC⟩ := hC
 subst hEp2
 refine ⟨show 3 ≤ 26 from by decide, ?_⟩
 refine Tri.sub (Sub.of_eq (show _ = ([(0, .sc (.i .u64 p0)), (1, .sc (.i .i64 p1)), (2, .sc (.i .i64 32))], []) from rfl)) ?_
 refine sq [] none [0, 1, 2] [] ([(0, .sc (.i .u64 p0)), (1, .sc (.i .i64 p1)), (2, .sc (.i .i64 32))], []) 32 (t1 pT) ?_
 refine Tri.seq ?_
 refine sq [] none [8, 0, 1] [] ([(8, .sc (.b false)), (0, .sc (.i .u64 p0)), (1, .sc (.i .i64 p1))], []) 64 (t2 pT) ?_
 refine Tri.cond_false (by kernel_rfl) ?_
 refine Tri.skip ?_
 change Tri _ _ _ _ _ _
 refine sq [] (some [0, 0, 3, 0, 0, 16, 56, 127, 255, 511]) [6] [] ([(6, .sc (.i .u64 (iAnd .u64 (iAdd .u64 (iShr .u64 p0 p1) (iShl .u64 p0 (iSub .i64 32 p1))) 4294967295)))], []) 224 (t2 (pu (lo ((0 : Int) ≤ p1)) (t3 (pu (li ((0 : Int) ≤ (iSub .i64 32 p1))) (t3 pT))))) ?_
 refine Tri.ret ?_
 refine rt ?_
 exact er [] pz
def turns (w : Int) (t : List Int) : Prop := (0 ≤ t.getD 0 0 ∧ t.getD 0 0 ≤ w) ∧ (0 ≤ t.getD 1 0 ∧ t.getD 1 0 ≤ w) ∧ (0 ≤ t.getD 2 0 ∧ t.getD 2 0 ≤ w)
noncomputable def F54w32 (p0 : Int) (p1 : List Int) (p2 : Bool) : Int :=
  (sel p2 (iXor .u64 (iXor .u64 (F60w32 p0 (p1.getD 0 0)) (F60w32 p0 (p1.getD 1 0))) (iShr .u64 p0 (p1.getD 2 0))) (iXor .u64 (iXor .u64 (F60w32 p0 (p1.getD 0 0)) (F60w32 p0 (p1.getD 1 0))) (F60w32 p0 (p1.getD 2 0))))
noncomputable def S54w32 : List AV → List Blk → Option (Prop × Ret)
  | [.sc (.i .u64 p0), .ints .i64 3 p1, .sc (.b p2), .sc (.i .i64 p3)], [] => some ((((32 : Int) = p3) ∧ (turns 32 p1)), ⟨.sc (.i .u64 (F54w32 p0 p1 p2)), []⟩)
  | _, _ => none
noncomputable def B54w32 : Bs := { P := Go.Proofs.Tryd.prog, G := gD, tab := tabOf [⟨82, 112, [.val, .val, .val], [], [], ⟨0, 0, S60w32⟩, false⟩, ⟨82, 192, [.val, .val, .val], [], [], ⟨0, 0, S60w32⟩, false⟩, ⟨82, 336, [.val, .val, .val], [], [], ⟨0, 0, S60w32⟩, false⟩], n := 35 }
theorem B54w32.ok : B54w32.Ok := ⟨tabOk (P := Go.Proofs.Tryd.prog) (G := gD) (l := [⟨82, 112, [.val, .val, .val], [], [], ⟨0, 0, S60w32⟩, false⟩, ⟨82, 192, [.val, .val, .val], [], [], ⟨0, 0, S60w32⟩, false⟩, ⟨82, 336, [.val, .val, .val], [], [], ⟨0, 0, S60w32⟩, false⟩]) (And.intro K60w32 (And.intro K60w32 (And.intro K60w32 True.intro))), mixed⟩
theorem K54w32 : Known Go.Proofs.Tryd.prog gD 77 ⟨0, 0, S54w32⟩ := by
 refine Known.walk (B := B54w32) (fn := Go.Proofs.Tryd.f77) B54w32.ok (by kernel_rfl) rfl (by kernel_rfl) (by kernel_rfl) (by decide) (by decide) ?_
 intro E args ks C r h hC hlen
 simp only at h
 unfold S54w32 at h
 split at h
 rotate_left
 cases h
 rename_i p0 p1 p2 p3
 cases h
 simp only [lens] at hlen
 obtain ⟨hEp3, hC⟩ := hC
 subst hEp3
 have hf1 := hC.1
 have hf2 := hC.2.1
 have hf3 := hC.2.2
 refine ⟨show 4 ≤ 35 from by decide, ?_⟩
 refine Tri.sub (Sub.of_eq (show _ = ([(0, .sc (.i .u64 p0)), (1, .ints .i64 3 p1), (2, .sc (.b p2)), (3, .sc (.i .i64 32))], []) from rfl)) ?_
 refine sq [] none [5, 0, 2, 3] [16] ([(5, .sc (.p 16 0)), (0, .sc (.i .u64 p0)), (2, .sc (.b p2)), (3, .sc (.i .i64 32))], [(16, .ints .i64 3 p1)]) 48 (t2 pT) ?_
 refine sq [] (some [0, 0, 2, 0, 15, 0, 0, 64, 0, 511, 1023, 2047]) [9, 5, 0, 2, 3] [16] ([(9, .sc (.i .u64 (iXor .u64 (F60w32 p0 (p1.getD 0 0)) (F60w32 p0 (p1.getD 1 0))))), (5, .sc (.p 16 0)), (0, .sc (.i .u64 p0)), (2, .sc (.b p2)), (3, .sc (.i .i64 32))], [(16, .ints .i64 3 p1)]) 240 (t1 (pu (lo ((0 : Int) ≤ 0 ∧ 0 < ((3 : Nat) : Int))) (pu (lo (0 < 3)) (t1 (pu (pa pT (pa (lr ((32 : Int) = (32 : Int))) (lo ((0 : Int) ≤ (p1.getD 0 0) ∧ (p1.getD 0 0) ≤ 32)))) (t1 (pu (lo ((0 : Int) ≤ 1 ∧ 1 < ((3 : Nat) : Int))) (pu (lo (1 < 3)) (t1 (pu (pa pT (pa (lr ((32 : Int) = (32 : Int))) (lo ((0 : Int) ≤ (p1.getD 1 0) ∧ (p1.getD 1 0) ≤ 32)))) (t2 pT))))))))))) ?_
 refine Tri.seq ?_
 refine sq [] none [21, 9, 5, 0, 3] [16] ([(21, .sc (.b p2)), (9, .sc (.i .u64 (iXor .u64 (F60w32 p0 (p1.getD 0 0)) (F60w32 p0 (p1.getD 1 0))))), (5, .sc (.p 16 0)), (0, .sc (.i .u64 p0)), (3, .sc (.i .i64 32))], [(16, .ints .i64 3 p1)]) 256 (t1 pT) ?_
 refine Tri.cond (x := p2) (by kernel_rfl) (fun h1 => ?_) (fun h1 => ?_)
 refine sq [] none [8] [] ([(8, .sc (.i .u64 (iXor .u64 (iXor .u64 (F60w32 p0 (p1.getD 0 0)) (F60w32 p0 (p1.getD 1 0))) (iShr .u64 p0 (p1.getD 2 0)))))], []) 368 (t2 (pu (lo ((0 : Int) ≤ 2 ∧ 2 < ((3 : Nat) : Int))) (pu (lo (2 < 3)) (pu (lo ((0 : Int) ≤ p1.getD 2 0)) (t2 pT))))) ?_
 refine Tri.ret ?_
 refine rt ?_
 refine endP.conv (r' := ⟨.sc (.i .u64 (iXor .u64 (iXor .u64 (F60w32 p0 (p1.getD 0 0)) (F60w32 p0 (p1.getD 1 0))) (iShr .u64 p0 (p1.getD 2 0)))), []⟩) (by simp only [F54w32, h1, sel_true, sel_false]) ?_
 exact er [] pz
 refine Tri.skip ?_
 change Tri _ _ _ _ _ _
 refine sq [] none [8] [] ([(8, .sc (.i .u64 (iXor .u64 (iXor .u64 (F60w32 p0 (p1.getD 0 0)) (F60w32 p0 (p1.getD 1 0))) (F60w32 p0 (p1.getD 2 0)))))], []) 384 (t2 (pu (lo ((0 : Int) ≤ 2 ∧ 2 < ((3 : Nat) : Int))) (pu (lo (2 < 3)) (t1 (pu (pa pT (pa (lr ((32 : Int) = (32 : Int))) (lo ((0 : Int) ≤ (p1.getD 2 0) ∧ (p1.getD 2 0) ≤ 32)))) (t2 pT)))))) ?_
 refine Tri.ret ?_
 refine rt ?_
 refine endP.conv (r' := ⟨.sc (.i .u64 (iXor .u64 (iXor .u64 (F60w32 p0 (p1.getD 0 0)) (F60w32 p0 (p1.getD 1 0))) (F60w32 p0 (p1.getD 2 0)))), []⟩) (by simp only [F54w32, h1, sel_true, sel_false]) ?_
 exact er [] pz
end Go.Vm
set_option maxRecDepth 100000
namespace Go.Vm
open Go Go.Proofs
noncomputable def lSteps : LaidI Tryd.prog := ⟨ "tabulary/digest.steps", 1, 102, 63, .u64, gSteps⟩
noncomputable def lStarts : LaidI Tryd.prog := ⟨ "tabulary/digest.starts", 0, 99, 63, .u64, gStarts⟩
noncomputable def laidW : List (String × DataW Unit) := [("tabulary/digest.steps", YtlmojjnpbpcbcaaDoor.Rows.laid_tabulary_digest_steps), ("tabulary/digest.starts", YtlmojjnpbpcbcaaDoor.Rows.laid_tabulary_digest_starts), ("unicode/utf8.acceptRanges", YtlmojjnpbpcbcaaDoor.Rows.laid_unicode_utf8_acceptRanges), ("unicode/utf8.first", YtlmojjnpbpcbcaaDoor.Rows.laid_unicode_utf8_first)]
theorem lSteps_ok : lSteps.ok := ⟨by kernel_rfl, by kernel_rfl, by kernel_rfl, by kernel_rfl, by kernel_rfl, by kernel_rfl⟩
theorem lStarts_ok : lStarts.ok := ⟨by kernel_rfl, by kernel_rfl, by kernel_rfl, by kernel_rfl, by kernel_rfl, by kernel_rfl⟩
theorem laidVars_two {P : Program} {W : World} {a b : String × DataW Unit} {r : List (String × DataW Unit)} {ps : List MemPlace} (h : DataW.LaidVars P W (a :: b :: r) ps) : ∃ qs, DataW.LaidVars P W [a, b] qs := by
  obtain ⟨g, t, cs, fuel, p, q, hg, ht, hv, hd, hr, _⟩ := h
  obtain ⟨g', t', cs', fuel', p', q', hg', ht', hv', hd', _, _⟩ := hr
  exact ⟨_, g, t, cs, fuel, p, _, hg, ht, hv, hd, ⟨g', t', cs', fuel', p', _, hg', ht', hv', hd', rfl, rfl⟩, rfl⟩
theorem globs_met {W : World} (h : laidMetH Tryd.prog laidW W) : GlobsOk (E0 Tryd.prog W) gD := by
  rw [MakeChecks.laidMetH_plain _ _ _ (by kernel_rfl)] at h
  obtain ⟨ps, hv, _, _⟩ := h
  obtain ⟨qs, hv⟩ := laidVars_two hv
  have e : [("tabulary/digest.steps", YtlmojjnpbpcbcaaDoor.Rows.laid_tabulary_digest_steps), ("tabulary/digest.starts", YtlmojjnpbpcbcaaDoor.Rows.laid_tabulary_digest_starts)] = [lSteps, lStarts].map fun x => (x.name, x.datum) := by kernel_rfl
  rw [e] at hv
  have hc := laid_cells (fun x hx => by
    simp only [List.mem_cons, List.not_mem_nil, or_false] at hx
    rcases hx with rfl | rfl
    · exact lSteps_ok
    · exact lStarts_ok) hv
  refine globs_ok (P := Tryd.prog) (l0 := [lStarts, lSteps]) (fun x hx => hc x ?_) ?_
  · simp only [List.mem_cons, List.not_mem_nil, or_false] at hx ⊢
    exact hx.symm
  · intro x hx
    simp only [List.mem_cons, List.not_mem_nil, or_false] at hx
    rcases hx with rfl | rfl
    · exact Nat.lt_of_lt_of_eq (by decide : 0 < 8) (by kernel_rfl)
    · exact Nat.lt_of_lt_of_eq (by decide : 0 < 80) (by kernel_rfl)
end Go.Vm
