/- A part of a proof: the small machine that walks the program, the walks of its functions, and what they compute in plain. -/
import Derived.Test.YtfkmfdjdppjijaaQcd
set_option linter.unusedVariables false
set_option linter.unusedSimpArgs false
namespace Go.Vm
open Go
theorem u32_put (k : Nat) (xs : List Int) (n : Nat) (h : n < 4294967296) : FwwU32 k xs (n : Int) = xs ++ be4 n := by
  have e := u32o_at k xs n h
  rw [wrap_u32, show ((n : Int) % 4294967296 = n) by omega] at e
  exact e
theorem be4_length (n : Nat) : (be4 n).length = 4 := rfl
theorem textz_put {k : Nat} {xs : List Int} (hk : k = xs.length) (s : ByteArray) (h : s.size < 4294967296) : FwwTextz k xs s = xs ++ be4 s.size ++ bytesI s := by
  show part1 (FwwText k xs s) (k + 4 + s.size) 0 (k + 4 + s.size) = _
  rw [text_writes k xs s h]
  exact part1_all (by rw [List.length_append, List.length_append, be4_length, bytesI_length, hk])
theorem to_is {p : Ch} {n : Nat} (hp : p.peer = (n : Int)) (h : n < 4294967296) (c : Int) : Fcto p c = c :: be4 n ∧ Fctoz p c = c :: be4 n := by
  have e : FwwU32 1 [c] p.peer = [c] ++ be4 n := by rw [hp]; exact u32_put 1 [c] n h
  refine ⟨e, ?_⟩
  show part1 (FwwU32 1 [c] p.peer) (1 + 4) 0 (1 + 4) = _
  rw [e]
  exact part1_all rfl
theorem byte_read (a : Int) (r : List Int) : FwByte (a :: r) false = a ∧ FwByte_1 (a :: r) false = r ∧ FwByte_2 (a :: r) false = false := by
  have h := byte_at (some (a :: r))
  refine ⟨h.1, ?_, ?_⟩
  · exact h.2.1.trans (by show rb (if 1 ≤ (a :: r).length then some ((a :: r).drop 1) else none) = r; rw [if_pos (by simp)]; rfl)
  · exact h.2.2.trans (by show rbad (if 1 ≤ (a :: r).length then some ((a :: r).drop 1) else none) = false; rw [if_pos (by simp)]; rfl)
end Go.Vm
set_option linter.unusedVariables false
namespace Go.Vm
open Go
def chA : Ch := ({server := false, state := 2, peer := 0, window := 4096, most := 512, room := 4096, wait := [], got := [], ready := true, e0 := false, e1 := false, c0 := false, c1 := false, out := []} : Ch)
def chB : Ch := ({server := true, state := 2, peer := 0, window := 4096, most := 512, room := 4096, wait := [], got := [], ready := true, e0 := false, e1 := false, c0 := false, c1 := false, out := []} : Ch)
theorem fit_end : itr Fcfitl0 4 ((FcBegin_1 (FcNew false)), (FcNew true)) = (chA, chB) := by kernel_rfl
end Go.Vm
set_option linter.unusedVariables false
set_option linter.unusedSimpArgs false
namespace Go.Vm
open Go
end Go.Vm
set_option linter.unusedVariables false
set_option linter.unusedSimpArgs false
namespace Go.Vm
open Go
def msg (peer : Nat) (x : List Int) : List Int := 94 :: (be4 peer ++ (be4 x.length ++ (x ++ [])))
def partAt (p : Ch) (j : Nat) : List Int := (p.wait.drop (j * p.most.toNat)).take (min p.most.toNat (flowM p - j * p.most.toNat))
theorem msg_is {z : Ch} {n : Nat} (hp : z.peer = (n : Int)) (hn : n < 4294967296) {x : List Int} (hd : Dg x) (hl : x.length < 4294967296) : FwwTextz (1 + 4) (Fcto z 94) (bytesOf x) = msg n x := by
  rw [(to_is hp hn 94).1, textz_put (k := 1 + 4) (xs := 94 :: be4 n) rfl _ (by rw [size_bytesOf]; exact hl), bytesI_bytesOf hd, size_bytesOf]
  unfold msg
  simp only [List.cons_append, List.append_assoc, List.append_nil]
theorem flow_out {p : Ch} {n : Nat} (h : chFlow p) (hp : p.peer = (n : Int)) (hn : n < 4294967296) (hd : Dg p.wait) : ∀ k, k ≤ flowN p → (itr Fcflowl0 k p).out = p.out ++ (List.range k).map fun j => msg n (partAt p j) := by
  intro k
  induction k with
  | zero => intro _; rw [itr_zero]; simp
  | succ k ih =>
    intro hk
    have h1 := ih (by omega)
    obtain ⟨hJ, hs⟩ := flow_at h k (by omega)
    obtain ⟨g1, g2, g3⟩ := flowJ_go h hJ (by omega)
    obtain ⟨⟨hq, hkM⟩, _⟩ := flowJ_lt' h hJ (of_decide_eq_true g1) (of_decide_eq_true g2) (by cases hc : (itr Fcflowl0 k p).c0; rfl; rw [hc] at g3; cases g3)
    obtain ⟨f1, f2, f3, f4⟩ := flowJ_facts h hJ
    have hM : flowM p = min p.wait.length p.window.toNat := rfl
    generalize hz : itr Fcflowl0 k p = z at *
    obtain ⟨b1, b2, b3, b4, b5⟩ := hJ
    rw [show min (k * p.most.toNat) (flowM p) = k * p.most.toNat by omega] at b1 b2
    have hw : (z.wait.drop 0).take ((min (min z.wait.length z.window.toNat) z.most.toNat) - 0) = partAt p k := by
      unfold partAt
      rw [List.drop_zero, Nat.sub_zero, b1, b3, List.length_drop]
      congr 1
      omega
    rw [itr_succ, hz, List.range_succ, List.map_append, ← List.append_assoc, ← h1]
    show z.out ++ [FwwTextz (1 + 4) (Fcto z 94) (bytesOf ((z.wait.drop 0).take ((min (min z.wait.length z.window.toNat) z.most.toNat) - 0)))] = _
    rw [hw]
    have hx : Dg (partAt p k) := dg_take _ (dg_drop _ hd)
    rw [msg_is (hs.2.2.1.trans hp) hn hx (by
      unfold partAt
      rw [List.length_take, List.length_drop]
      obtain ⟨_, _, _, a6⟩ := h
      omega)]
    rfl
end Go.Vm
set_option linter.unusedVariables false
set_option linter.unusedSimpArgs false
namespace Go.Vm
open Go
theorem flow_all {p : Ch} (h : chFlow p) (hc : p.c0 = false) (hq : 0 < p.most.toNat) : flowM p ≤ flowN p * p.most.toNat := by
  unfold flowN
  rw [hc, sel_false]
  have h1 := Nat.div_add_mod (flowM p + p.most.toNat - 1) p.most.toNat
  have h2 := Nat.mod_lt (flowM p + p.most.toNat - 1) hq
  rw [Nat.mul_comm] at h1
  omega
end Go.Vm
set_option linter.unusedVariables false
set_option linter.unusedSimpArgs false
namespace Go.Vm
open Go
theorem take_on {p : Ch} (h1 : p.state = 2) (h2 : p.c1 = false) {c : Int} (k1 : (c == 90) = false) (k2 : (c == 91) = false) (k3 : (c == 92) = false) (r : List Int) :
    FcTake p (c :: (be4 0 ++ r)) = Fcon p c r false ∧ FcTake_1 p (c :: (be4 0 ++ r)) = Fcon_1 p c r false := by
  obtain ⟨b1, b2, b3⟩ := byte_read c (be4 0 ++ r)
  obtain ⟨u1, u2, u3⟩ := u32_read 0 (by decide) r
  have u1' : FwU32 (be4 0 ++ r) false = 0 := u1
  have hl : ((((c :: (be4 0 ++ r)).length : Nat) : Int) == 0) = false := by
    rw [beq_eq_false_iff_ne, List.length_cons]
    omega
  have k9 : ((0 : Int) != 0) = false := rfl
  have c1 : (p.state != 2) = false := by rw [h1]; rfl
  unfold FcTake FcTake_1 FcTakev2
  simp only [b1, b2, b3, u1', u2, u3, k1, k2, k3, k9, c1, h2]
  rw [hl, sel_false, sel_false, sel_false, sel_false, sel_false, sel_false, sel_false, sel_false, sel_false, sel_false, sel_false, sel_false, sel_false, sel_false]
  exact ⟨rfl, rfl⟩
theorem take_data {p : Ch} (h1 : p.state = 2) (h2 : p.c1 = false) (h3 : p.e1 = false) {x : List Int} (hd : Dg x) (hl : x.length ≤ 512) (hr : (x.length : Int) ≤ p.room) :
    FcTake_1 p (msg 0 x) = ({p with room := (iSub .i64 p.room ((x.length : Nat) : Int)), got := p.got ++ x} : Ch) := by
  obtain ⟨t1, t2, t3⟩ := text_read x [] (by omega)
  rw [List.append_assoc] at t1 t2 t3
  have e := (take_on h1 h2 (c := 94) rfl rfl rfl (be4 x.length ++ (x ++ []))).2
  refine Eq.trans e ?_
  have k4 : ((94 : Int) == 93) = false := rfl
  have k5 : ((94 : Int) == 94) = true := rfl
  have z1 : (decide (((((bytesOf x).size : Nat) : Int) : Int) > p.room)) = false := decide_eq_false (by rw [size_bytesOf]; omega)
  have z2 : (decide (((((bytesOf x).size : Nat) : Int) : Int) > 512)) = false := decide_eq_false (by rw [size_bytesOf]; omega)
  unfold Fcon_1
  simp only [k4, k5, sel_true, sel_false, t1, t2, t3, end_at, Bool.not_true, z1, z2, h3]
  rw [size_bytesOf, bytesI_bytesOf hd]
theorem take_eof {p : Ch} (h1 : p.state = 2) (h2 : p.c1 = false) (h3 : p.e1 = false) : FcTake_1 p (96 :: be4 0) = ({p with e1 := true} : Ch) := by
  have e := (take_on h1 h2 (c := 96) rfl rfl rfl []).2
  rw [List.append_nil] at e
  refine Eq.trans e ?_
  have k4 : ((96 : Int) == 93) = false := rfl
  have k5 : ((96 : Int) == 94) = false := rfl
  have k6 : ((96 : Int) == 96) = true := rfl
  unfold Fcon_1
  simp only [k4, k5, k6, sel_true, sel_false, end_at, Bool.not_true, h3]
theorem take_close {p : Ch} (h1 : p.state = 2) (h2 : p.c1 = false) : FcTake_1 p (97 :: be4 0) = sel (!p.c0) ({(Fcbye ({p with c1 := true} : Ch)) with state := 3} : Ch) ({p with state := 3, c1 := true} : Ch) := by
  have e := (take_on h1 h2 (c := 97) rfl rfl rfl []).2
  rw [List.append_nil] at e
  refine Eq.trans e ?_
  have k4 : ((97 : Int) == 93) = false := rfl
  have k5 : ((97 : Int) == 94) = false := rfl
  have k6 : ((97 : Int) == 96) = false := rfl
  have k7 : ((97 : Int) == 97) = true := rfl
  unfold Fcon_1
  simp only [k4, k5, k6, k7, sel_true, sel_false, end_at, Bool.not_true]
theorem bye_gen {p : Ch} {n : Nat} (hp : p.peer = (n : Int)) (hn : n < 4294967296) : Fcbye p = sel p.c1 ({p with state := 3, wait := [], c0 := true, out := p.out ++ [96 :: be4 n] ++ [97 :: be4 n]} : Ch) ({p with wait := [], c0 := true, out := p.out ++ [96 :: be4 n] ++ [97 :: be4 n]} : Ch) := by
  have e1 := (to_is (p := ({p with wait := ([] : List Int), c0 := true} : Ch)) (n := n) hp hn 96).2
  have v0 : Fcbyev0 p = ({p with wait := [], c0 := true, out := p.out ++ [96 :: be4 n]} : Ch) := by
    unfold Fcbyev0
    rw [e1]
    rfl
  have v1 : Fcbyev1 p = ({p with wait := [], c0 := true, out := p.out ++ [96 :: be4 n] ++ [97 :: be4 n]} : Ch) := by
    unfold Fcbyev1
    rw [v0, (to_is (p := ({p with wait := [], c0 := true, out := p.out ++ [96 :: be4 n]} : Ch)) (n := n) hp hn 97).2]
    rfl
  show sel (Fcbyev1 p).c1 _ (Fcbyev1 p) = _
  rw [v1]
theorem bye_is {p : Ch} {n : Nat} (hp : p.peer = (n : Int)) (hn : n < 4294967296) (hc : p.c1 = false) : Fcbye p = ({p with wait := [], c0 := true, out := p.out ++ [96 :: be4 n] ++ [97 :: be4 n]} : Ch) := by
  rw [bye_gen hp hn, hc, sel_false]
theorem bye_shut {p : Ch} {n : Nat} (hp : p.peer = (n : Int)) (hn : n < 4294967296) (hc : p.c1 = true) : Fcbye p = ({p with state := 3, wait := [], c0 := true, out := p.out ++ [96 :: be4 n] ++ [97 :: be4 n]} : Ch) := by
  rw [bye_gen hp hn, hc, sel_true]
theorem sel_p {α : Type} (P : α → Prop) {b : Bool} {x y : α} (hx : P x) (hy : P y) : P (sel b x y) := by
  cases b
  · rw [sel_false]; exact hy
  · rw [sel_true]; exact hx
theorem take_shut {p : Ch} (h1 : p.state = 3) (q : List Int) : (FcTake_1 p q).state = 3 ∧ (FcTake p q = 3 ∨ (0 < q.length ∧ q.getD 0 0 = 90)) := by
  have n0 : (p.state != 0) = true := by rw [h1]; rfl
  have n1 : (p.state != 1) = true := by rw [h1]; rfl
  have n2 : (p.state != 2) = true := by rw [h1]; rfl
  cases q with
  | nil =>
    have hl : (((([] : List Int).length : Nat) : Int) == 0) = true := rfl
    unfold FcTake FcTake_1
    rw [hl, sel_true, sel_true]
    exact ⟨h1, .inl rfl⟩
  | cons a r =>
    obtain ⟨b1, b2, b3⟩ := byte_read a r
    have hl : ((((a :: r).length : Nat) : Int) == 0) = false := by
      rw [beq_eq_false_iff_ne, List.length_cons]
      omega
    unfold FcTake FcTake_1 FcTakev0 FcTakev1 FcTakev2
    simp only [b1, b2, b3]
    rw [hl, sel_false, sel_false, n1, n2]
    cases ha : (a == 90)
    · rw [sel_false, sel_false]
      refine ⟨?_, .inl ?_⟩
      · refine sel_p (fun c : Ch => c.state = 3) ?_ (sel_p (fun c : Ch => c.state = 3) (sel_p (fun c : Ch => c.state = 3) h1 (by rw [sel_true]; exact h1)) (sel_p (fun c : Ch => c.state = 3) h1 (by rw [sel_true]; exact h1)))
        unfold Fcconfirm_1
        rw [n1]
        exact sel_p (fun c : Ch => c.state = 3) h1 (by rw [sel_true]; exact h1)
      · refine sel_p (fun c : Int => c = 3) ?_ (sel_p (fun c : Int => c = 3) (sel_p (fun c : Int => c = 3) rfl (by rw [sel_true])) (sel_p (fun c : Int => c = 3) rfl (by rw [sel_true])))
        unfold Fcconfirm
        rw [n1]
        exact sel_p (fun c : Int => c = 3) rfl (by rw [sel_true])
    · rw [sel_true, sel_true]
      refine ⟨?_, .inr ⟨Nat.succ_pos _, by simpa using ha⟩⟩
      unfold Fcopen_1
      rw [n0]
      exact sel_p (fun c : Ch => c.state = 3) h1 (sel_p (fun c : Ch => c.state = 3) h1 (by rw [sel_true]; exact h1))
end Go.Vm
set_option linter.unusedVariables false
set_option linter.unusedSimpArgs false
namespace Go.Vm
open Go
theorem ch_eq {p q : Ch} (h1 : p.server = q.server) (h2 : p.state = q.state) (h3 : p.peer = q.peer) (h4 : p.window = q.window) (h5 : p.most = q.most) (h6 : p.room = q.room) (h7 : p.wait = q.wait) (h8 : p.got = q.got) (h9 : p.ready = q.ready) (h10 : p.e0 = q.e0) (h11 : p.e1 = q.e1) (h12 : p.c0 = q.c0) (h13 : p.c1 = q.c1) (h14 : p.out = q.out) : p = q := by
  cases p
  cases q
  simp only at h1 h2 h3 h4 h5 h6 h7 h8 h9 h10 h11 h12 h13 h14
  subst h1 h2 h3 h4 h5 h6 h7 h8 h9 h10 h11 h12 h13 h14
  rfl
def chO (s : Bool) : Ch := ({server := s, state := 2, peer := 0, window := 4096, most := 512, room := 4096, wait := [], got := [], ready := true, e0 := false, e1 := false, c0 := false, c1 := false, out := []} : Ch)
def parts (n q M : Nat) (d : List Int) (N : Nat) : List (List Int) := (List.range N).map fun j => msg n ((d.drop (j * q)).take (min q (M - j * q)))
theorem carry_fold (p : Ch) : ∀ k, k ≤ p.out.length → ∀ y, itr (Fccarryl0 p) k y = (p.out.take k).foldl (fun z r => FcTake_1 z r) y := by
  intro k
  induction k with
  | zero => intro _ y; rw [itr_zero, List.take_zero]; rfl
  | succ k ih =>
    intro hk y
    have hk' : k < p.out.length := hk
    rw [itr_succ, ih (by omega), List.take_succ_eq_append_getElem hk', List.foldl_append]
    show FcTake_1 _ ((FcOut_1 p).getD k []) = FcTake_1 _ _
    rw [show FcOut_1 p = p.out from rfl, List.getD_eq_getElem?_getD, List.getElem?_eq_getElem hk']
    rfl
theorem carry_is (a b : Ch) : Fccarry a b = ({a with out := []} : Ch) ∧ Fccarry_1 a b = a.out.foldl (fun z r => FcTake_1 z r) b := by
  refine ⟨rfl, ?_⟩
  have h := carry_fold a a.out.length (Nat.le_refl _) b
  rw [List.take_length] at h
  exact h
theorem carry_none {a : Ch} (h : a.out = []) (b : Ch) : Fccarry a b = a ∧ Fccarry_1 a b = b := by
  obtain ⟨h1, h2⟩ := carry_is a b
  rw [h] at h2
  refine ⟨h1.trans ?_, h2⟩
  rw [← h]
def came (t : Bool) (d : List Int) (n : Nat) : Ch := ({chO t with room := 4096 - (n : Int), got := d.take n} : Ch)
theorem parts_come {d : List Int} (hd : Dg d) (hl : d.length ≤ 4096) {q : Nat} (hq : q ≤ 512) (t : Bool) : ∀ N, (parts 0 q d.length d N).foldl (fun z r => FcTake_1 z r) (chO t) = came t d (min (N * q) d.length) := by
  intro N
  induction N with
  | zero => rw [Nat.zero_mul, Nat.zero_min]; rfl
  | succ N ih =>
    have e : parts 0 q d.length d (N + 1) = parts 0 q d.length d N ++ [msg 0 ((d.drop (N * q)).take (min q (d.length - N * q)))] := by
      unfold parts
      rw [List.range_succ, List.map_append]
      rfl
    rw [e, List.foldl_append, ih]
    rw [List.foldl_cons, List.foldl_nil]
    have hx : ((d.drop (N * q)).take (min q (d.length - N * q))).length = min q (d.length - N * q) := by
      rw [List.length_take, List.length_drop]
      omega
    have ht := take_data (p := came t d (min (N * q) d.length)) (x := (d.drop (N * q)).take (min q (d.length - N * q))) rfl rfl rfl (dg_take _ (dg_drop _ hd)) (by rw [hx]; omega) (by rw [hx]; show _ ≤ (4096 : Int) - _; omega)
    rw [hx] at ht
    refine Eq.trans ht ?_
    have hr : iSub .i64 ((4096 : Int) - ((min (N * q) d.length : Nat) : Int)) ((min q (d.length - N * q) : Nat) : Int) = 4096 - ((min ((N + 1) * q) d.length : Nat) : Int) := by
      rw [iSub_i64 (by omega) (by omega), Nat.succ_mul]
      omega
    have hg : d.take (min (N * q) d.length) ++ (d.drop (N * q)).take (min q (d.length - N * q)) = d.take (min ((N + 1) * q) d.length) := by
      rcases Nat.le_total (N * q) d.length with h | h
      · rw [Nat.min_eq_left h, ← List.take_add, Nat.succ_mul]
        congr 1
        omega
      · rw [Nat.min_eq_right h, List.drop_of_length_le h, List.take_nil, List.append_nil, Nat.min_eq_right (by rw [Nat.succ_mul]; omega)]
    have hroom : (came t d (min (N * q) d.length)).room = (4096 : Int) - ((min (N * q) d.length : Nat) : Int) := rfl
    have hgot : (came t d (min (N * q) d.length)).got = d.take (min (N * q) d.length) := rfl
    rw [hroom, hgot, hr, hg]
    rfl
end Go.Vm
set_option linter.unusedVariables false
set_option linter.unusedSimpArgs false
namespace Go.Vm
open Go
def full (s : Bool) (d : List Int) : Ch := ({chO s with wait := d} : Ch)
theorem full_flow (s : Bool) {d : List Int} (hl : d.length ≤ 3000) : chFlow (full s d) :=
  ⟨⟨(by decide : (0 : Int) ≤ 4096), (by decide : (4096 : Int) ≤ 2147483647)⟩, ⟨(by decide : (0 : Int) ≤ 512), (by decide : (512 : Int) ≤ 512)⟩, fun _ => (by decide : (0 : Int) < 512), by show 0 + d.length ≤ _; omega⟩
def sent (s : Bool) (d : List Int) : Ch := ({chO s with window := 4096 - (d.length : Int), out := parts 0 512 d.length d (flowN (full s d))} : Ch)
theorem full_M (s : Bool) {d : List Int} (hl : d.length ≤ 3000) : flowM (full s d) = d.length := by
  show min d.length ((4096 : Int)).toNat = _
  omega
theorem full_N (s : Bool) {d : List Int} (hl : d.length ≤ 3000) : d.length ≤ flowN (full s d) * 512 := by
  have h := flow_all (full_flow s hl) rfl (by show 0 < ((512 : Int)).toNat; decide)
  rw [full_M s hl] at h
  exact h
theorem sent_is (s : Bool) {d : List Int} (hd : Dg d) (hl : d.length ≤ 3000) : Fcflow (full s d) = sent s d := by
  have hf := full_flow s hl
  obtain ⟨⟨b1, b2, b3, b4, b5⟩, s1, s2, s3, s4, s5, s6, s7, s8, s9⟩ := flow_is hf
  have hN := full_N s hl
  have hm : min (flowN (full s d) * (full s d).most.toNat) (flowM (full s d)) = d.length := by
    rw [full_M s hl]
    exact Nat.min_eq_right hN
  rw [hm] at b1 b2
  have ho := flow_out (n := 0) hf rfl (by decide) hd (flowN (full s d)) (Nat.le_refl _)
  refine ch_eq s1 s2 s3 b2 b3 s4 (b1.trans ?_) s5 s6 s7 s8 b4 s9 (ho.trans ?_)
  · exact List.drop_length
  · show [] ++ _ = parts 0 512 d.length d _
    rw [List.nil_append]
    unfold parts
    refine List.map_congr_left fun j _ => ?_
    unfold partAt
    rw [full_M s hl]
    rfl
def said (s : Bool) (d : List Int) : Ch := ({chO s with window := 4096 - (d.length : Int), c0 := true, out := parts 0 512 d.length d (flowN (full s d)) ++ [96 :: be4 0] ++ [97 :: be4 0]} : Ch)
theorem send_is (s : Bool) {d : List Int} (hd : Dg d) (hl : d.length ≤ 3000) : FcSend_1 (chO s) d = sent s d := by
  show sel false _ (sel false _ (sel false _ (sel false _ (Fcflow (full s d))))) = _
  rw [sel_false, sel_false, sel_false, sel_false, sent_is s hd hl]
theorem close_is (s : Bool) (d : List Int) : FcClose (sent s d) = 0 ∧ FcClose_1 (sent s d) = said s d := by
  refine ⟨rfl, ?_⟩
  show sel false _ (sel false _ (Fcbye (sent s d))) = _
  rw [sel_false, sel_false, bye_is (n := 0) rfl (by decide) rfl]
  rfl
theorem said_no (s : Bool) (d e : List Int) : FcSend (said s d) e = 8 ∧ FcSend_1 (said s d) e = said s d ∧ FcClose (said s d) = 8 ∧ FcClose_1 (said s d) = said s d ∧ FcPending (said s d) = 0 := ⟨rfl, rfl, rfl, rfl, rfl⟩
def heard (t : Bool) (d : List Int) : Ch := ({chO t with state := 3, room := 4096 - (d.length : Int), got := d, e1 := true, c0 := true, c1 := true, out := [96 :: be4 0] ++ [97 :: be4 0]} : Ch)
def gone (s : Bool) (d : List Int) : Ch := ({chO s with state := 3, window := 4096 - (d.length : Int), e1 := true, c0 := true, c1 := true} : Ch)
theorem carry_1 (s t : Bool) {d : List Int} (hd : Dg d) (hl : d.length ≤ 3000) : Fccarry (said s d) (chO t) = ({said s d with out := []} : Ch) ∧ Fccarry_1 (said s d) (chO t) = heard t d := by
  obtain ⟨h1, h2⟩ := carry_is (said s d) (chO t)
  refine ⟨h1, h2.trans ?_⟩
  show (parts 0 512 d.length d (flowN (full s d)) ++ [96 :: be4 0] ++ [97 :: be4 0]).foldl _ _ = _
  rw [List.foldl_append, List.foldl_append, parts_come hd (by omega) (by decide), Nat.min_eq_right (full_N s hl), List.foldl_cons, List.foldl_nil, List.foldl_cons, List.foldl_nil, take_eof (p := came t d d.length) rfl rfl rfl, take_close (p := ({came t d d.length with e1 := true} : Ch)) rfl rfl]
  show sel true _ _ = _
  rw [sel_true, bye_shut (p := ({came t d d.length with e1 := true, c1 := true} : Ch)) (n := 0) rfl (by decide) rfl]
  have hg : d.take d.length = d := List.take_length
  refine ch_eq rfl rfl rfl rfl rfl rfl rfl hg rfl rfl rfl rfl rfl rfl
def quiet (t : Bool) (d : List Int) : Ch := ({heard t d with out := []} : Ch)
theorem carry_2 (s t : Bool) (d : List Int) : Fccarry (heard t d) ({said s d with out := []} : Ch) = quiet t d ∧ Fccarry_1 (heard t d) ({said s d with out := []} : Ch) = gone s d := by
  obtain ⟨h1, h2⟩ := carry_is (heard t d) ({said s d with out := []} : Ch)
  refine ⟨h1, h2.trans ?_⟩
  show ([96 :: be4 0] ++ [97 :: be4 0]).foldl _ _ = _
  rw [List.foldl_append, List.foldl_cons, List.foldl_nil, List.foldl_cons, List.foldl_nil, take_eof (p := ({said s d with out := []} : Ch)) rfl rfl rfl, take_close (p := ({said s d with out := [], e1 := true} : Ch)) rfl rfl]
  exact sel_false _ _
noncomputable def round (z : Ch × Ch) : Ch × Ch := (Fccarry_1 (Fccarry_1 z.1 z.2) (Fccarry z.1 z.2), Fccarry (Fccarry_1 z.1 z.2) (Fccarry z.1 z.2))
theorem round_1 (s t : Bool) {d : List Int} (hd : Dg d) (hl : d.length ≤ 3000) : round (said s d, chO t) = (gone s d, quiet t d) := by
  obtain ⟨a1, a2⟩ := carry_1 s t hd hl
  obtain ⟨b1, b2⟩ := carry_2 s t d
  unfold round
  rw [a1, a2, b1, b2]
theorem round_2 (s t : Bool) (d : List Int) : round (gone s d, quiet t d) = (gone s d, quiet t d) := by
  obtain ⟨a1, a2⟩ := carry_none (a := gone s d) rfl (quiet t d)
  obtain ⟨b1, b2⟩ := carry_none (a := quiet t d) rfl (gone s d)
  unfold round
  rw [a1, a2, b1, b2]
theorem rounds {f : Nat → Ch × Ch → Ch × Ch} (hf : ∀ k z, f k z = round z) (s t : Bool) {d : List Int} (hd : Dg d) (hl : d.length ≤ 3000) : ∀ k, itr f k (said s d, chO t) = bif Nat.beq k 0 then (said s d, chO t) else (gone s d, quiet t d) := by
  intro k
  induction k with
  | zero => rw [itr_zero]; rfl
  | succ k ih =>
    rw [itr_succ, ih, hf]
    cases k with
    | zero => exact round_1 s t hd hl
    | succ k => exact round_2 s t d
end Go.Vm
set_option linter.unusedVariables false
set_option linter.unusedSimpArgs false
namespace Go.Vm
open Go
theorem flowN_le {p : Ch} (hc : p.c0 = false) (hq : 0 < p.most.toNat) : flowN p ≤ flowM p := by
  have h3 : (flowM p + p.most.toNat - 1) / p.most.toNat < flowM p + 1 := by
    refine (Nat.div_lt_iff_lt_mul hq).2 ?_
    have := Nat.le_mul_of_pos_right (flowM p) hq
    rw [Nat.succ_mul]
    omega
  unfold flowN
  rw [hc, sel_false]
  omega
theorem parts_len (n q M : Nat) (d : List Int) (N : Nat) : (parts n q M d N).length = N := by
  unfold parts
  rw [List.length_map, List.length_range]
theorem full_len (s : Bool) {d : List Int} (hl : d.length ≤ 3000) : flowN (full s d) ≤ 3000 := by
  have h := flowN_le (p := full s d) rfl (by show 0 < ((512 : Int)).toNat; decide)
  rw [full_M s hl] at h
  omega
theorem said_len (s : Bool) {d : List Int} (hl : d.length ≤ 3000) : (said s d).out.length ≤ 3002 ∧ (sent s d).out.length ≤ 3000 := by
  have h := full_len s hl
  refine ⟨?_, ?_⟩
  · show (parts 0 512 d.length d (flowN (full s d)) ++ [96 :: be4 0] ++ [97 :: be4 0]).length ≤ _
    rw [List.length_append, List.length_append, parts_len]
    show _ + 1 + 1 ≤ _
    omega
  · show (parts 0 512 d.length d (flowN (full s d))).length ≤ _
    rw [parts_len]
    exact h
theorem win_ok : ((0 : Int) ≤ 4096 ∧ (4096 : Int) ≤ 2147483647) := by decide
theorem most_ok : ((0 : Int) ≤ 512 ∧ (512 : Int) ≤ 512) := by decide
theorem send_pre (s : Bool) {d : List Int} (hl : d.length ≤ 3000) : (chFlow (chO s) ∧ (chO s).out.length + (chO s).wait.length + d.length ≤ 1000000000) ∧ (chFlow (said s d) ∧ (said s d).out.length + (said s d).wait.length + d.length ≤ 1000000000) ∧ (chFlow (quiet s d) ∧ (quiet s d).out.length + (quiet s d).wait.length + d.length ≤ 1000000000) := by
  have h1 := (said_len s hl).1
  have hw : (said s d).wait.length = 0 := rfl
  refine ⟨⟨⟨win_ok, most_ok, fun _ => (by decide : (0 : Int) < 512), by show 0 + 0 ≤ _; decide⟩, by show 0 + 0 + d.length ≤ _; omega⟩, ⟨⟨⟨by show (0 : Int) ≤ 4096 - _; omega, by show (4096 : Int) - _ ≤ _; omega⟩, most_ok, fun _ => (by decide : (0 : Int) < 512), by omega⟩, by omega⟩, ⟨⟨win_ok, most_ok, fun _ => (by decide : (0 : Int) < 512), by show 0 + 0 ≤ _; decide⟩, by show 0 + 0 + d.length ≤ _; omega⟩⟩
theorem close_pre (s : Bool) {d : List Int} (hl : d.length ≤ 3000) : (sent s d).out.length ≤ 900000000 ∧ (said s d).out.length ≤ 900000000 ∧ (quiet s d).out.length ≤ 900000000 := by
  obtain ⟨h1, h2⟩ := said_len s hl
  exact ⟨by omega, by omega, by show 0 ≤ _; decide⟩
theorem carry_pre (s t : Bool) {d : List Int} (hd : Dg d) (hl : d.length ≤ 3000) (k : Nat) {z : Ch × Ch} (hz : z = bif Nat.beq k 0 then (said s d, chO t) else (gone s d, quiet t d)) :
    (chOk 1000000 z.2 ∧ z.1.out.length ≤ 100000) ∧ (chOk 1000000 (Fccarry z.1 z.2) ∧ (Fccarry_1 z.1 z.2).out.length ≤ 100000) := by
  obtain ⟨h1, h2⟩ := said_len s hl
  have hw : ((0 : Int) ≤ 4096 - (d.length : Int) ∧ (4096 : Int) - (d.length : Int) ≤ 2147483647) := by omega
  have ok2 : chOk 1000000 (quiet t d) := ⟨win_ok, most_ok, fun _ => (by decide : (0 : Int) < 512), ⟨by show 0 + 0 ≤ _; decide, by show d.length ≤ _; omega⟩, fun _ => (by decide : (0 : Int) < 512)⟩
  have ok3 : chOk 1000000 (gone s d) := ⟨hw, most_ok, fun _ => (by decide : (0 : Int) < 512), ⟨by show 0 + 0 ≤ _; decide, by show 0 ≤ _; decide⟩, fun _ => (by decide : (0 : Int) < 512)⟩
  cases hk : Nat.beq k 0
  · rw [hk, cond_false] at hz
    subst hz
    obtain ⟨a1, a2⟩ := carry_none (a := gone s d) rfl (quiet t d)
    rw [a1, a2]
    exact ⟨⟨ok2, by show 0 ≤ _; decide⟩, ok3, by show 0 ≤ _; decide⟩
  · rw [hk, cond_true] at hz
    subst hz
    obtain ⟨a1, a2⟩ := carry_1 s t hd hl
    rw [a1, a2]
    exact ⟨⟨⟨win_ok, most_ok, fun _ => (by decide : (0 : Int) < 512), ⟨by show 0 + 0 ≤ _; decide, by show 0 ≤ _; decide⟩, fun _ => (by decide : (0 : Int) < 512)⟩, by show (said s d).out.length ≤ _; omega⟩, ⟨hw, most_ok, fun _ => (by decide : (0 : Int) < 512), ⟨by show 0 + 0 ≤ _; decide, by show 0 ≤ _; decide⟩, fun _ => (by decide : (0 : Int) < 512)⟩, by show 2 ≤ _; decide⟩
theorem recv_quiet (t : Bool) (d : List Int) : FcRecv (quiet t d) = ({quiet t d with got := []} : Ch) := by
  unfold FcRecv
  have h : (((quiet t d).state : Int) == 2) = false := rfl
  rw [h, sel_false]
  cases (decide (((((quiet t d).got.length : Nat) : Int) : Int) > 0))
  · exact sel_false _ _
  · exact sel_true _ _
theorem quiet_ok (t : Bool) (d : List Int) : chOk 900000000 (FcOut (FcRecv (quiet t d))) := by
  rw [recv_quiet]
  exact ⟨win_ok, most_ok, fun _ => (by decide : (0 : Int) < 512), ⟨by show 0 + 0 ≤ _; decide, by show 0 ≤ _; decide⟩, fun _ => (by decide : (0 : Int) < 512)⟩
end Go.Vm
set_option linter.unusedVariables false
set_option linter.unusedSimpArgs false
set_option maxRecDepth 4000
namespace Go.Vm
open Go
noncomputable def FcClosesv2 (z0:Ch × Ch):Ch :=
 (Fccarry (Fccarry_1 z0.1 z0.2) (Fccarry z0.1 z0.2))
noncomputable def FcClosesv3 (z0:Ch × Ch):Ch :=
 (Fccarry_1 (Fccarry_1 z0.1 z0.2) (Fccarry z0.1 z0.2))
noncomputable def FcClosesl0 (k0:Nat) (z0:Ch × Ch):Ch × Ch :=
 ((FcClosesv3 z0),(FcClosesv2 z0))
noncomputable def FcClosesv4 (p1:List Int):Ch :=
 (FcSend_1 ((itr (FcClosesl0) 4 ((FcBegin_1 (FcNew false)),(FcNew true))).2) p1)
noncomputable def FcClosesv5 (p1:List Int):Ch :=
 (FcSend_1 (FcClose_1 (FcClosesv4 p1)) p1)
noncomputable def FcClosesv10 (z1:Ch × Ch):Ch :=
 (Fccarry (Fccarry_1 z1.1 z1.2) (Fccarry z1.1 z1.2))
noncomputable def FcClosesv11 (z1:Ch × Ch):Ch :=
 (Fccarry_1 (Fccarry_1 z1.1 z1.2) (Fccarry z1.1 z1.2))
noncomputable def FcClosesl1 (k1:Nat) (z1:Ch × Ch):Ch × Ch :=
 ((FcClosesv11 z1),(FcClosesv10 z1))
noncomputable def FcClosesv12 (p1:List Int):Ch :=
 (FcSend_1 ((itr (FcClosesl1) 3 ((FcClose_1 (FcClosesv5 p1)),(itr (FcClosesl0) 4 ((FcBegin_1 (FcNew false)),(FcNew true))).1)).2) p1)
noncomputable def FcClosesv13 (p1:List Int) (p2:List Int):Ch :=
 (FcTake_1 (FcOut (FcRecv (FcClosesv12 p1))) p2)
noncomputable def FcClosesv14 (p1:List Int):Ch :=
 (FcSend_1 ((itr (FcClosesl0) 4 ((FcBegin_1 (FcNew false)),(FcNew true))).1) p1)
noncomputable def FcClosesv15 (p1:List Int):Ch :=
 (FcSend_1 (FcClose_1 (FcClosesv14 p1)) p1)
noncomputable def FcClosesv20 (z2:Ch × Ch):Ch :=
 (Fccarry (Fccarry_1 z2.1 z2.2) (Fccarry z2.1 z2.2))
noncomputable def FcClosesv21 (z2:Ch × Ch):Ch :=
 (Fccarry_1 (Fccarry_1 z2.1 z2.2) (Fccarry z2.1 z2.2))
noncomputable def FcClosesl2 (k2:Nat) (z2:Ch × Ch):Ch × Ch :=
 ((FcClosesv21 z2),(FcClosesv20 z2))
noncomputable def FcClosesv22 (p1:List Int):Ch :=
 (FcSend_1 ((itr (FcClosesl2) 3 ((FcClose_1 (FcClosesv15 p1)),(itr (FcClosesl0) 4 ((FcBegin_1 (FcNew false)),(FcNew true))).2)).2) p1)
noncomputable def FcClosesv23 (p1:List Int) (p2:List Int):Ch :=
 (FcTake_1 (FcOut (FcRecv (FcClosesv22 p1))) p2)
noncomputable def FcCloses (p0:Bool) (p1:List Int) (p2:List Int):Bool :=
 (sel (!(Fcfit)) false (sel (decide (((p1.length:Int):Int) > 3000)) true (sel (decide (((p2.length:Int):Int) > 3000)) true (sel p0 (sel (((FcClose (FcClosesv4 p1)):Int) != 0) false (sel (((FcSend (FcClose_1 (FcClosesv4 p1)) p1):Int) != 8) false (sel (((FcClose (FcClosesv5 p1)):Int) != 8) false (sel (((FcPending (FcClose_1 (FcClosesv5 p1))):Int) != 0) false (sel (((FcState ((itr (FcClosesl1) 3 ((FcClose_1 (FcClosesv5 p1)),(itr (FcClosesl0) 4 ((FcBegin_1 (FcNew false)),(FcNew true))).1)).1)):Int) != 3) false (sel (((FcState ((itr (FcClosesl1) 3 ((FcClose_1 (FcClosesv5 p1)),(itr (FcClosesl0) 4 ((FcBegin_1 (FcNew false)),(FcNew true))).1)).2)):Int) != 3) false (sel (((FcSend ((itr (FcClosesl1) 3 ((FcClose_1 (FcClosesv5 p1)),(itr (FcClosesl0) 4 ((FcBegin_1 (FcNew false)),(FcNew true))).1)).2) p1):Int) != 8) false (sel (!(strEq (bytesOf (((FcRecv_1 (FcClosesv12 p1)).drop 0).take ((FcClosesv12 p1).got.length))) (bytesOf ((p1.drop 0).take ((min p1.length 4096) - 0))))) false (sel (decide (((((FcRecv (FcClosesv12 p1)).out.length:Nat):Int):Int) > 0)) false (sel (((FcTake (FcOut (FcRecv (FcClosesv12 p1))) p2):Int) == 3) (((FcState (FcClosesv13 p1 p2)):Int) == 3) (sel (decide (((p2.length:Int):Int) > 0)) (sel ((p2.getD 0 0:Int) == 90) (((FcState (FcClosesv13 p1 p2)):Int) == 3) false) false))))))))))) (sel (((FcClose (FcClosesv14 p1)):Int) != 0) false (sel (((FcSend (FcClose_1 (FcClosesv14 p1)) p1):Int) != 8) false (sel (((FcClose (FcClosesv15 p1)):Int) != 8) false (sel (((FcPending (FcClose_1 (FcClosesv15 p1))):Int) != 0) false (sel (((FcState ((itr (FcClosesl2) 3 ((FcClose_1 (FcClosesv15 p1)),(itr (FcClosesl0) 4 ((FcBegin_1 (FcNew false)),(FcNew true))).2)).1)):Int) != 3) false (sel (((FcState ((itr (FcClosesl2) 3 ((FcClose_1 (FcClosesv15 p1)),(itr (FcClosesl0) 4 ((FcBegin_1 (FcNew false)),(FcNew true))).2)).2)):Int) != 3) false (sel (((FcSend ((itr (FcClosesl2) 3 ((FcClose_1 (FcClosesv15 p1)),(itr (FcClosesl0) 4 ((FcBegin_1 (FcNew false)),(FcNew true))).2)).2) p1):Int) != 8) false (sel (!(strEq (bytesOf (((FcRecv_1 (FcClosesv22 p1)).drop 0).take ((FcClosesv22 p1).got.length))) (bytesOf ((p1.drop 0).take ((min p1.length 4096) - 0))))) false (sel (decide (((((FcRecv (FcClosesv22 p1)).out.length:Nat):Int):Int) > 0)) false (sel (((FcTake (FcOut (FcRecv (FcClosesv22 p1))) p2):Int) == 3) (((FcState (FcClosesv23 p1 p2)):Int) == 3) (sel (decide (((p2.length:Int):Int) > 0)) (sel ((p2.getD 0 0:Int) == 90) (((FcState (FcClosesv23 p1 p2)):Int) == 3) false) false)))))))))))))))
theorem Closes_loop:itr FcClosesl0 4 ((FcBegin_1 (FcNew false)),(FcNew true))=(chA,chB):=fit_end
theorem Closes_at {k:Nat} (hk:k < 4) {z:Ch × Ch} (hz:z=itr FcClosesl0 k ((FcBegin_1 (FcNew false)),(FcNew true))):(chOk 1000000 z.2∧z.1.out.length≤100000)∧(chOk 1000000 (Fccarry z.1 z.2)∧(Fccarry_1 z.1 z.2).out.length≤100000):=fit_at hk hz
theorem Closes_v4 {p1:List Int} (hC:∀ x ∈ p1,(0:Int)≤x∧x < 256) (h1:(decide (((p1.length:Int):Int) > 3000))=false):FcClosesv4 p1=sent true p1∧FcClosesv5 p1=said true p1∧FcClose_1 (FcClosesv5 p1)=said true p1:=by
 have h1':=of_decide_eq_false h1
 have e4:FcClosesv4 p1=sent true p1:=by
  unfold FcClosesv4
  rw [Closes_loop]
  exact send_is true hC (by omega)
 have e5:FcClosesv5 p1=said true p1:=by
  unfold FcClosesv5
  rw [e4,(close_is true p1).2]
  exact (said_no true p1 p1).2.1
 exact ⟨e4,e5,by rw [e5]; exact (said_no true p1 p1).2.2.2.1⟩
theorem Closes_l1 {p1:List Int} (hC:∀ x ∈ p1,(0:Int)≤x∧x < 256) (h1:(decide (((p1.length:Int):Int) > 3000))=false) (k:Nat):itr FcClosesl1 k ((FcClose_1 (FcClosesv5 p1)),(itr (FcClosesl0) 4 ((FcBegin_1 (FcNew false)),(FcNew true))).1)=bif Nat.beq k 0 then (said true p1,chO (!true)) else (gone true p1,quiet (!true) p1):=by
 have h1':=of_decide_eq_false h1
 rw [(Closes_v4 hC h1).2.2,Closes_loop]
 exact rounds (f:=FcClosesl1) (fun _ _ => rfl) true (!true) hC (by omega) k
theorem Closes_v12 {p1:List Int} (hC:∀ x ∈ p1,(0:Int)≤x∧x < 256) (h1:(decide (((p1.length:Int):Int) > 3000))=false):FcClosesv12 p1=quiet (!true) p1:=by
 unfold FcClosesv12
 rw [Closes_l1 hC h1]
 rfl
theorem Closes_v14 {p1:List Int} (hC:∀ x ∈ p1,(0:Int)≤x∧x < 256) (h1:(decide (((p1.length:Int):Int) > 3000))=false):FcClosesv14 p1=sent false p1∧FcClosesv15 p1=said false p1∧FcClose_1 (FcClosesv15 p1)=said false p1:=by
 have h1':=of_decide_eq_false h1
 have e4:FcClosesv14 p1=sent false p1:=by
  unfold FcClosesv14
  rw [Closes_loop]
  exact send_is false hC (by omega)
 have e5:FcClosesv15 p1=said false p1:=by
  unfold FcClosesv15
  rw [e4,(close_is false p1).2]
  exact (said_no false p1 p1).2.1
 exact ⟨e4,e5,by rw [e5]; exact (said_no false p1 p1).2.2.2.1⟩
theorem Closes_l2 {p1:List Int} (hC:∀ x ∈ p1,(0:Int)≤x∧x < 256) (h1:(decide (((p1.length:Int):Int) > 3000))=false) (k:Nat):itr FcClosesl2 k ((FcClose_1 (FcClosesv15 p1)),(itr (FcClosesl0) 4 ((FcBegin_1 (FcNew false)),(FcNew true))).2)=bif Nat.beq k 0 then (said false p1,chO (!false)) else (gone false p1,quiet (!false) p1):=by
 have h1':=of_decide_eq_false h1
 rw [(Closes_v14 hC h1).2.2,Closes_loop]
 exact rounds (f:=FcClosesl2) (fun _ _ => rfl) false (!false) hC (by omega) k
theorem Closes_v22 {p1:List Int} (hC:∀ x ∈ p1,(0:Int)≤x∧x < 256) (h1:(decide (((p1.length:Int):Int) > 3000))=false):FcClosesv22 p1=quiet (!false) p1:=by
 unfold FcClosesv22
 rw [Closes_l2 hC h1]
 rfl
noncomputable def ScCloses:List AV→List Blk→Option (Prop × Ret)
 | [.sc (.b p0),.sc (.ro .u8 p1),.sc (.ro .u8 p2)],[] => some ((∀ x ∈ p1,(0:Int)≤x∧x < 256),⟨.sc (.b (FcCloses p0 p1 p2)),[]⟩)
 | _,_ => none
noncomputable def LcCloses:Lib:=[⟨8,32,[],[],[],⟨0,0,Scfit⟩,false⟩,⟨9,192,[.val],[],[],⟨0,4,ScNew⟩,false⟩,⟨9,208,[.val],[],[],⟨0,4,ScNew⟩,false⟩,⟨10,272,[.io],[],[192,193,194,195],⟨4,3,ScBegin⟩,false⟩,⟨11,352,[.io,.io],[],[192,272,273,274,208,209,210,211],⟨8,6,Sccarry⟩,false⟩,⟨11,400,[.io,.io],[],[208,355,356,357,192,352,353,354],⟨8,6,Sccarry⟩,false⟩,⟨11,816,[.io,.io],[],[192,624,625,626,208,209,210,211],⟨8,6,Sccarry⟩,false⟩,⟨11,864,[.io,.io],[],[208,819,820,821,192,816,817,818],⟨8,6,Sccarry⟩,false⟩,⟨11,880,[.io,.io],[],[208,688,689,690,192,272,273,274],⟨8,6,Sccarry⟩,false⟩,⟨11,928,[.io,.io],[],[192,883,884,885,208,880,881,882],⟨8,6,Sccarry⟩,false⟩,⟨12,1392,[.io,.ro .u8],[],[192,1296,1297,1298],⟨4,3,ScTake⟩,false⟩,⟨12,2272,[.io,.ro .u8],[],[208,2176,2177,2178],⟨4,3,ScTake⟩,false⟩,⟨16,1296,[.io],[],[192,1088,1089,1090],⟨4,4,ScOut⟩,false⟩,⟨16,2176,[.io],[],[208,1968,1969,1970],⟨4,4,ScOut⟩,false⟩,⟨17,800,[.io],[],[192,624,625,626],⟨4,0,ScState⟩,true⟩,⟨17,864,[.io],[],[208,688,689,690],⟨4,0,ScState⟩,true⟩,⟨17,928,[.io],[],[192,272,273,274],⟨4,0,ScState⟩,true⟩,⟨17,1664,[.io],[],[192,1392,1393,1394],⟨4,0,ScState⟩,true⟩,⟨17,1744,[.io],[],[192,624,625,626],⟨4,0,ScState⟩,true⟩,⟨17,1808,[.io],[],[208,209,210,211],⟨4,0,ScState⟩,true⟩,⟨17,2544,[.io],[],[208,2272,2273,2274],⟨4,0,ScState⟩,true⟩,⟨19,432,[.io,.ro .u8],[],[192,272,273,274],⟨4,3,ScSend⟩,false⟩,⟨19,496,[.io,.ro .u8],[],[208,209,210,211],⟨4,3,ScSend⟩,false⟩,⟨19,544,[.io,.ro .u8],[],[192,464,465,466],⟨4,3,ScSend⟩,false⟩,⟨19,608,[.io,.ro .u8],[],[208,528,529,530],⟨4,3,ScSend⟩,false⟩,⟨19,1024,[.io,.ro .u8],[],[192,272,273,274],⟨4,3,ScSend⟩,false⟩,⟨19,1904,[.io,.ro .u8],[],[208,209,210,211],⟨4,3,ScSend⟩,false⟩,⟨24,704,[.io],[],[192,624,625,626],⟨4,0,ScPending⟩,true⟩,⟨24,768,[.io],[],[208,688,689,690],⟨4,0,ScPending⟩,true⟩,⟨26,1088,[.io],[],[192,1024,1025,1026],⟨4,4,ScRecv⟩,false⟩,⟨26,1968,[.io],[],[208,1904,1905,1906],⟨4,4,ScRecv⟩,false⟩,⟨27,464,[.io],[],[192,432,433,434],⟨4,3,ScClose⟩,false⟩,⟨27,528,[.io],[],[208,496,497,498],⟨4,3,ScClose⟩,false⟩,⟨27,624,[.io],[],[192,544,545,546],⟨4,3,ScClose⟩,false⟩,⟨27,688,[.io],[],[208,608,609,610],⟨4,3,ScClose⟩,false⟩]
noncomputable def BcCloses:Bs:={ P:=Go.Proofs.Try.prog,G:=noG,tab:=tabOf LcCloses,n:=124 }
theorem BcCloses.ok:BcCloses.Ok:=⟨tabOk (P:=Go.Proofs.Try.prog) (G:=noG) (l:=LcCloses) (show allKnown Go.Proofs.Try.prog noG LcCloses from by unfold LcCloses; exact (And.intro Kcfit (And.intro KcNew (And.intro KcNew (And.intro KcBegin (And.intro Kccarry (And.intro Kccarry (And.intro Kccarry (And.intro Kccarry (And.intro Kccarry (And.intro Kccarry (And.intro KcTake (And.intro KcTake (And.intro KcOut (And.intro KcOut (And.intro KcState (And.intro KcState (And.intro KcState (And.intro KcState (And.intro KcState (And.intro KcState (And.intro KcState (And.intro KcSend (And.intro KcSend (And.intro KcSend (And.intro KcSend (And.intro KcSend (And.intro KcSend (And.intro KcPending (And.intro KcPending (And.intro KcRecv (And.intro KcRecv (And.intro KcClose (And.intro KcClose (And.intro KcClose (And.intro KcClose True.intro)))))))))))))))))))))))))))))))))))),mixed⟩
theorem KcCloses:Known Go.Proofs.Try.prog noG 6 ⟨0,0,ScCloses⟩:=by
 refine Known.walk (B:=BcCloses) (fn:=Go.Proofs.Try.f6) BcCloses.ok (by kernel_rfl) rfl (by kernel_rfl) (by kernel_rfl) (by decide) (by decide) ?_
 ·intro E args ks C r h hC hlen
  simp only at h
  unfold ScCloses at h
  split at h
  rotate_left
  ·cases h
  rename_i p0 p1 p2
  cases h
  simp only [lens] at hlen
  refine ⟨show 3≤124 from by decide,?_⟩
  refine Tri.sub (Sub.of_eq (show _=([(0,.sc (.b p0)),(1,.sc (.ro .u8 p1)),(2,.sc (.ro .u8 p2))],[]) from rfl)) ?_
  refine Tri.seq_region [] none [0,1,2] [] (TT∧True)
    ([(0,.sc (.b p0)),(1,.sc (.ro .u8 p1)),(2,.sc (.ro .u8 p2))],[])
    32 (by kernel_rfl) rfl (by kernel_rfl) (⟨tt,trivial⟩) ?_
  refine Tri.seq ?_
  refine Tri.seq_region [] none [14,0,1,2] [] ((TT∧True)∧(TT∧True))
    ([(14,.sc (.b (!(Fcfit)))),(0,.sc (.b p0)),(1,.sc (.ro .u8 p1)),(2,.sc (.ro .u8 p2))],[])
    64 (by kernel_rfl) rfl (by kernel_rfl) (⟨⟨tt,trivial⟩,⟨tt,trivial⟩⟩) ?_
  refine Tri.cond (x:=(!(Fcfit))) (by kernel_rfl) (fun h1 => ?_) (fun h1 => ?_)
  ·
   refine Tri.seq_region [] none [6] [] (TT∧True)
     ([(6,.sc (.b false))],[])
     80 (by kernel_rfl) rfl (by kernel_rfl) (⟨tt,trivial⟩) ?_
   refine Tri.ret ?_
   repeat (first | refine thenP_ret ?_ | refine blkP_ret ?_ | refine countP_ret ?_ | refine joinP_ret ?_ | refine iterP_ret ?_)
   refine endP.conv (r':=⟨.sc (.b false),[]⟩) (by simp only [chC,FcCloses,h1,sel_true,sel_false]) ?_
   exact endP.ret [] TT (by kernel_rfl) (by kernel_rfl) tt
  ·
   refine Tri.skip ?_
   change Tri _ _ _ _ _ _
   refine Tri.seq ?_
   refine Tri.split (decide (((p1.length:Int):Int) > 3000)) (fun h2 => ?_) (fun h2 => ?_)
   ·
    have h2':=of_decide_eq_true h2
    refine Tri.seq_region [(18,qb true)] none [22,0,1,2] [] (TT∧(TT∧(TT∧((True∧((decide (((p1.length:Int):Int) > 3000))=true))∧(TT∧(TT∧(TT∧(TT∧True))))))))
      ([(22,.sc (.b true)),(0,.sc (.b p0)),(1,.sc (.ro .u8 p1)),(2,.sc (.ro .u8 p2))],[])
      192 (by kernel_rfl) rfl (by kernel_rfl) (⟨tt,⟨tt,⟨tt,⟨⟨trivial,(h2)⟩,⟨tt,⟨tt,⟨tt,⟨tt,trivial⟩⟩⟩⟩⟩⟩⟩⟩) ?_
    refine Tri.cond_true (by kernel_rfl) ?_
    refine Tri.seq_region [] none [6] [] (TT∧True)
      ([(6,.sc (.b true))],[])
      208 (by kernel_rfl) rfl (by kernel_rfl) (⟨tt,trivial⟩) ?_
    refine Tri.ret ?_
    repeat (first | refine thenP_ret ?_ | refine blkP_ret ?_ | refine countP_ret ?_ | refine joinP_ret ?_ | refine iterP_ret ?_)
    refine endP.conv (r':=⟨.sc (.b true),[]⟩) (by simp only [chC,FcCloses,h1,h2,sel_true,sel_false]) ?_
    exact endP.ret [] TT (by kernel_rfl) (by kernel_rfl) tt
   ·
    have h2':=of_decide_eq_false h2
    refine Tri.seq_region [(18,qb false)] none [22,0,1,2] [] (TT∧(TT∧(TT∧((True∧((decide (((p1.length:Int):Int) > 3000))=false))∧(TT∧(TT∧(TT∧(TT∧True))))))))
      ([(22,.sc (.b (decide (((p2.length:Int):Int) > 3000)))),(0,.sc (.b p0)),(1,.sc (.ro .u8 p1)),(2,.sc (.ro .u8 p2))],[])
      192 (by kernel_rfl) rfl (by kernel_rfl) (⟨tt,⟨tt,⟨tt,⟨⟨trivial,(h2)⟩,⟨tt,⟨tt,⟨tt,⟨tt,trivial⟩⟩⟩⟩⟩⟩⟩⟩) ?_
    refine Tri.cond (x:=(decide (((p2.length:Int):Int) > 3000))) (by kernel_rfl) (fun h3 => ?_) (fun h3 => ?_)
    ·
     have h3':=of_decide_eq_true h3
     refine Tri.seq_region [] none [6] [] (TT∧True)
       ([(6,.sc (.b true))],[])
       208 (by kernel_rfl) rfl (by kernel_rfl) (⟨tt,trivial⟩) ?_
     refine Tri.ret ?_
     repeat (first | refine thenP_ret ?_ | refine blkP_ret ?_ | refine countP_ret ?_ | refine joinP_ret ?_ | refine iterP_ret ?_)
     refine endP.conv (r':=⟨.sc (.b true),[]⟩) (by simp only [chC,FcCloses,h1,h2,h3,sel_true,sel_false]) ?_
     exact endP.ret [] TT (by kernel_rfl) (by kernel_rfl) tt
    ·
     have h3':=of_decide_eq_false h3
     refine Tri.skip ?_
     change Tri _ _ _ _ _ _
     refine Tri.seq_region [] none [8,7,0,1,2] [211,210,209,208,195,194,193,192] ((TT∧True)∧((TT∧True)∧(TT∧(TT∧True))))
       ([(8,.sc (.p 208 0)),(7,.sc (.p 192 0)),(0,.sc (.b p0)),(1,.sc (.ro .u8 p1)),(2,.sc (.ro .u8 p2))],[(211,.vec .row ((FcNew true).out)),(210,.ints .u8 ((FcNew true).got.length) ((FcNew true).got)),(209,.ints .u8 ((FcNew true).wait.length) ((FcNew true).wait)),(208,chC 209 210 211 (FcNew true)),(195,.vec .row ((FcNew false).out)),(194,.ints .u8 ((FcNew false).got.length) ((FcNew false).got)),(193,.ints .u8 ((FcNew false).wait.length) ((FcNew false).wait)),(192,chC 193 194 195 (FcNew false))])
       256 (by kernel_rfl) rfl (by kernel_rfl) (⟨⟨tt,trivial⟩,⟨⟨tt,trivial⟩,⟨tt,⟨tt,trivial⟩⟩⟩⟩) ?_
     refine Tri.seq_region [] none [8,7,0,1,2] [274,273,272,192,211,210,209,208] (TT∧(((True∧((chLens ((FcNew false).wait.length) ((FcNew false).got.length) ((FcNew false).out.length) ((FcNew false).wait.length) ((FcNew false).got.length) (FcNew false))∧((FcNew false).out.length≤1000000000)))∧True)∧True))
       ([(8,.sc (.p 208 0)),(7,.sc (.p 192 0)),(0,.sc (.b p0)),(1,.sc (.ro .u8 p1)),(2,.sc (.ro .u8 p2))],[(274,.vec .row ((FcBegin_1 (FcNew false)).out)),(273,.ints .u8 ((FcBegin_1 (FcNew false)).got.length) ((FcBegin_1 (FcNew false)).got)),(272,.ints .u8 ((FcBegin_1 (FcNew false)).wait.length) ((FcBegin_1 (FcNew false)).wait)),(192,chC 272 273 274 (FcBegin_1 (FcNew false))),(211,.vec .row ((FcNew true).out)),(210,.ints .u8 ((FcNew true).got.length) ((FcNew true).got)),(209,.ints .u8 ((FcNew true).wait.length) ((FcNew true).wait)),(208,chC 209 210 211 (FcNew true))])
       288 (by kernel_rfl) rfl (by kernel_rfl) (⟨tt,⟨⟨⟨trivial,⟨(chLens_self _),(by first | omega | (dsimp only; omega) | decide | (simp only [FcClosesv2,FcClosesv3,FcClosesv4,FcClosesv5,FcClosesv10,FcClosesv11,FcClosesv12,FcClosesv13,FcClosesv14,FcClosesv15,FcClosesv20,FcClosesv21,FcClosesv22,FcClosesv23,len_say]; omega))⟩⟩,trivial⟩,trivial⟩⟩) ?_
     refine Tri.seq ?_
     refine Tri.seq_region [] none [27,8,7,0,1,2] [274,273,272,192,211,210,209,208] (TT∧True)
       ([(27,.sc (.i .i64 0)),(8,.sc (.p 208 0)),(7,.sc (.p 192 0)),(0,.sc (.b p0)),(1,.sc (.ro .u8 p1)),(2,.sc (.ro .u8 p2))],[(274,.vec .row ((FcBegin_1 (FcNew false)).out)),(273,.ints .u8 ((FcBegin_1 (FcNew false)).got.length) ((FcBegin_1 (FcNew false)).got)),(272,.ints .u8 ((FcBegin_1 (FcNew false)).wait.length) ((FcBegin_1 (FcNew false)).wait)),(192,chC 272 273 274 (FcBegin_1 (FcNew false))),(211,.vec .row ((FcNew true).out)),(210,.ints .u8 ((FcNew true).got.length) ((FcNew true).got)),(209,.ints .u8 ((FcNew true).wait.length) ((FcNew true).wait)),(208,chC 209 210 211 (FcNew true))])
       304 (by kernel_rfl) rfl (by kernel_rfl) (⟨tt,trivial⟩) ?_
     refine Tri.block ?_
     refine Tri.count 304 4 (FcClosesl0) ((FcBegin_1 (FcNew false)),(FcNew true)) (fun k0 z0 => True) (fun k0 z0 => ([(27,.sc (.i .i64 (k0:Int))),(8,.sc (.p 208 0)),(7,.sc (.p 192 0)),(0,.sc (.b p0)),(1,.sc (.ro .u8 p1)),(2,.sc (.ro .u8 p2))],[(274,.vec .row z0.1.out),(273,.ints .u8 z0.1.got.length z0.1.got),(272,.ints .u8 z0.1.wait.length z0.1.wait),(192,chC 272 273 274 z0.1),(211,.vec .row z0.2.out),(210,.ints .u8 z0.2.got.length z0.2.got),(209,.ints .u8 z0.2.wait.length z0.2.wait),(208,chC 209 210 211 z0.2)])) trivial (Sub.of_eq (by kernel_rfl)) ?_
     intro k0 z0 hk0 hz0 hJ0
     refine Tri.seq_region [] none [28,27,8,7,0,1,2] [274,273,272,192,211,210,209,208] (TT∧True)
       ([(28,.sc (.b (decide (((k0:Int):Int) < 4)))),(27,.sc (.i .i64 (k0:Int))),(8,.sc (.p 208 0)),(7,.sc (.p 192 0)),(0,.sc (.b p0)),(1,.sc (.ro .u8 p1)),(2,.sc (.ro .u8 p2))],[(274,.vec .row z0.1.out),(273,.ints .u8 z0.1.got.length z0.1.got),(272,.ints .u8 z0.1.wait.length z0.1.wait),(192,chC 272 273 274 z0.1),(211,.vec .row z0.2.out),(210,.ints .u8 z0.2.got.length z0.2.got),(209,.ints .u8 z0.2.wait.length z0.2.wait),(208,chC 209 210 211 z0.2)])
       320 (by kernel_rfl) rfl (by kernel_rfl) (⟨tt,trivial⟩) ?_
     refine Tri.seq ?_
     refine Tri.cond (x:=(decide (((k0:Int):Int) < 4))) (by kernel_rfl) (fun h4 => ?_) (fun h4 => ?_)
     ·
      have h4':=of_decide_eq_true h4
      refine Tri.skip ?_
      change Tri _ _ _ _ _ _
      refine Tri.seq ?_
      refine Tri.block ?_
      refine Tri.seq_region [] none [27,8,7,0,1,2] [357,356,355,354,353,352,208,192] (TT∧(TT∧(((True∧((chLens z0.1.wait.length z0.1.got.length z0.1.out.length z0.1.wait.length z0.1.got.length z0.1)∧((chLens z0.2.wait.length z0.2.got.length z0.2.out.length z0.2.wait.length z0.2.got.length z0.2)∧(chOk 1000000 z0.2∧z0.1.out.length≤100000))))∧True)∧True)))
        ([(27,.sc (.i .i64 (k0:Int))),(8,.sc (.p 208 0)),(7,.sc (.p 192 0)),(0,.sc (.b p0)),(1,.sc (.ro .u8 p1)),(2,.sc (.ro .u8 p2))],[(357,.vec .row ((Fccarry_1 z0.1 z0.2).out)),(356,.ints .u8 ((Fccarry_1 z0.1 z0.2).got.length) ((Fccarry_1 z0.1 z0.2).got)),(355,.ints .u8 ((Fccarry_1 z0.1 z0.2).wait.length) ((Fccarry_1 z0.1 z0.2).wait)),(354,.vec .row ((Fccarry z0.1 z0.2).out)),(353,.ints .u8 ((Fccarry z0.1 z0.2).got.length) ((Fccarry z0.1 z0.2).got)),(352,.ints .u8 ((Fccarry z0.1 z0.2).wait.length) ((Fccarry z0.1 z0.2).wait)),(208,chC 355 356 357 (Fccarry_1 z0.1 z0.2)),(192,chC 352 353 354 (Fccarry z0.1 z0.2))])
        368 (by kernel_rfl) rfl (by kernel_rfl) (⟨tt,⟨tt,⟨⟨⟨trivial,⟨(chLens_self _),⟨(chLens_self _),((by first | exact (Closes_at (by omega) hz0).1 | exact (Closes_at (by omega) hz0).2 | exact (carry_pre true false hC (by omega) k1 (hz1.trans (Closes_l1 hC (by assumption) k1))).1 | exact (carry_pre true false hC (by omega) k1 (hz1.trans (Closes_l1 hC (by assumption) k1))).2 | exact (carry_pre false true hC (by omega) k2 (hz2.trans (Closes_l2 hC (by assumption) k2))).1 | exact (carry_pre false true hC (by omega) k2 (hz2.trans (Closes_l2 hC (by assumption) k2))).2))⟩⟩⟩,trivial⟩,trivial⟩⟩⟩) ?_
      refine Tri.region' [] none [27,8,7,0,1,2] [405,404,403,402,401,400,192,208] (TT∧(TT∧(((True∧((chLens ((Fccarry_1 z0.1 z0.2).wait.length) ((Fccarry_1 z0.1 z0.2).got.length) ((Fccarry_1 z0.1 z0.2).out.length) ((Fccarry_1 z0.1 z0.2).wait.length) ((Fccarry_1 z0.1 z0.2).got.length) (Fccarry_1 z0.1 z0.2))∧((chLens ((Fccarry z0.1 z0.2).wait.length) ((Fccarry z0.1 z0.2).got.length) ((Fccarry z0.1 z0.2).out.length) ((Fccarry z0.1 z0.2).wait.length) ((Fccarry z0.1 z0.2).got.length) (Fccarry z0.1 z0.2))∧(chOk 1000000 (Fccarry z0.1 z0.2)∧(Fccarry_1 z0.1 z0.2).out.length≤100000))))∧True)∧True)))
        ([(27,.sc (.i .i64 (k0:Int))),(8,.sc (.p 208 0)),(7,.sc (.p 192 0)),(0,.sc (.b p0)),(1,.sc (.ro .u8 p1)),(2,.sc (.ro .u8 p2))],[(405,.vec .row ((FcClosesv3 z0).out)),(404,.ints .u8 ((FcClosesv3 z0).got.length) ((FcClosesv3 z0).got)),(403,.ints .u8 ((FcClosesv3 z0).wait.length) ((FcClosesv3 z0).wait)),(402,.vec .row ((FcClosesv2 z0).out)),(401,.ints .u8 ((FcClosesv2 z0).got.length) ((FcClosesv2 z0).got)),(400,.ints .u8 ((FcClosesv2 z0).wait.length) ((FcClosesv2 z0).wait)),(192,chC 403 404 405 (FcClosesv3 z0)),(208,chC 400 401 402 (FcClosesv2 z0))])
        416 (by kernel_rfl) rfl (by kernel_rfl) (⟨tt,⟨tt,⟨⟨⟨trivial,⟨(chLens_self _),⟨(chLens_self _),((by first | exact (Closes_at (by omega) hz0).1 | exact (Closes_at (by omega) hz0).2 | exact (carry_pre true false hC (by omega) k1 (hz1.trans (Closes_l1 hC (by assumption) k1))).1 | exact (carry_pre true false hC (by omega) k1 (hz1.trans (Closes_l1 hC (by assumption) k1))).2 | exact (carry_pre false true hC (by omega) k2 (hz2.trans (Closes_l2 hC (by assumption) k2))).1 | exact (carry_pre false true hC (by omega) k2 (hz2.trans (Closes_l2 hC (by assumption) k2))).2))⟩⟩⟩,trivial⟩,trivial⟩⟩⟩) ?_
      change Tri _ _ _ _ _ _
      refine Tri.region' [(35,qi ((k0 + 1:Nat):Int))] none [27,8,7,0,1,2] [405,404,403,402,401,400,192,208] ((True∧((iAdd .i64 (k0:Int) 1)=((k0 + 1:Nat):Int)))∧(TT∧True))
        ([(27,.sc (.i .i64 ((k0 + 1:Nat):Int))),(8,.sc (.p 208 0)),(7,.sc (.p 192 0)),(0,.sc (.b p0)),(1,.sc (.ro .u8 p1)),(2,.sc (.ro .u8 p2))],[(405,.vec .row ((FcClosesv3 z0).out)),(404,.ints .u8 ((FcClosesv3 z0).got.length) ((FcClosesv3 z0).got)),(403,.ints .u8 ((FcClosesv3 z0).wait.length) ((FcClosesv3 z0).wait)),(402,.vec .row ((FcClosesv2 z0).out)),(401,.ints .u8 ((FcClosesv2 z0).got.length) ((FcClosesv2 z0).got)),(400,.ints .u8 ((FcClosesv2 z0).wait.length) ((FcClosesv2 z0).wait)),(192,chC 403 404 405 (FcClosesv3 z0)),(208,chC 400 401 402 (FcClosesv2 z0))])
        448 (by kernel_rfl) rfl (by kernel_rfl) (⟨⟨trivial,(iAdd_nat (a:=k0) (b:=1) (by omega))⟩,⟨tt,trivial⟩⟩) ?_
      repeat (refine blkP_normal ?_)
      refine countP_normal (by omega) trivial ?_
      exact Sub.ren (ns:=[(405,274),(404,273),(403,272),(192,192),(402,211),(401,210),(400,209),(208,208)]) (kf:=[27,8,7,0,1,2]) (by kernel_rfl) (by kernel_rfl)
     ·
      have h4':=of_decide_eq_false h4
      refine Tri.exit ?_
      have hend0:k0=4:=by (have:=of_decide_eq_false h4; omega)
      subst hend0; subst hz0
      change Tri _ _ _ _ _ _
      refine Tri.seq_region [] none [10,9,8,7,0,1,2] [274,273,272,192,211,210,209,208] (TT∧(TT∧(TT∧(TT∧True))))
        ([(10,.sc (.p 208 0)),(9,.sc (.p 192 0)),(8,.sc (.p 208 0)),(7,.sc (.p 192 0)),(0,.sc (.b p0)),(1,.sc (.ro .u8 p1)),(2,.sc (.ro .u8 p2))],[(274,.vec .row ((itr (FcClosesl0) 4 ((FcBegin_1 (FcNew false)),(FcNew true))).1.out)),(273,.ints .u8 ((itr (FcClosesl0) 4 ((FcBegin_1 (FcNew false)),(FcNew true))).1.got.length) ((itr (FcClosesl0) 4 ((FcBegin_1 (FcNew false)),(FcNew true))).1.got)),(272,.ints .u8 ((itr (FcClosesl0) 4 ((FcBegin_1 (FcNew false)),(FcNew true))).1.wait.length) ((itr (FcClosesl0) 4 ((FcBegin_1 (FcNew false)),(FcNew true))).1.wait)),(192,chC 272 273 274 ((itr (FcClosesl0) 4 ((FcBegin_1 (FcNew false)),(FcNew true))).1)),(211,.vec .row ((itr (FcClosesl0) 4 ((FcBegin_1 (FcNew false)),(FcNew true))).2.out)),(210,.ints .u8 ((itr (FcClosesl0) 4 ((FcBegin_1 (FcNew false)),(FcNew true))).2.got.length) ((itr (FcClosesl0) 4 ((FcBegin_1 (FcNew false)),(FcNew true))).2.got)),(209,.ints .u8 ((itr (FcClosesl0) 4 ((FcBegin_1 (FcNew false)),(FcNew true))).2.wait.length) ((itr (FcClosesl0) 4 ((FcBegin_1 (FcNew false)),(FcNew true))).2.wait)),(208,chC 209 210 211 ((itr (FcClosesl0) 4 ((FcBegin_1 (FcNew false)),(FcNew true))).2))])
        384 (by kernel_rfl) rfl (by kernel_rfl) (⟨tt,⟨tt,⟨tt,⟨tt,trivial⟩⟩⟩⟩) ?_
      refine Tri.seq ?_
      refine Tri.seq_region [] none [38,10,9,8,7,1,2] [274,273,272,192,211,210,209,208] (TT∧True)
        ([(38,.sc (.b p0)),(10,.sc (.p 208 0)),(9,.sc (.p 192 0)),(8,.sc (.p 208 0)),(7,.sc (.p 192 0)),(1,.sc (.ro .u8 p1)),(2,.sc (.ro .u8 p2))],[(274,.vec .row ((itr (FcClosesl0) 4 ((FcBegin_1 (FcNew false)),(FcNew true))).1.out)),(273,.ints .u8 ((itr (FcClosesl0) 4 ((FcBegin_1 (FcNew false)),(FcNew true))).1.got.length) ((itr (FcClosesl0) 4 ((FcBegin_1 (FcNew false)),(FcNew true))).1.got)),(272,.ints .u8 ((itr (FcClosesl0) 4 ((FcBegin_1 (FcNew false)),(FcNew true))).1.wait.length) ((itr (FcClosesl0) 4 ((FcBegin_1 (FcNew false)),(FcNew true))).1.wait)),(192,chC 272 273 274 ((itr (FcClosesl0) 4 ((FcBegin_1 (FcNew false)),(FcNew true))).1)),(211,.vec .row ((itr (FcClosesl0) 4 ((FcBegin_1 (FcNew false)),(FcNew true))).2.out)),(210,.ints .u8 ((itr (FcClosesl0) 4 ((FcBegin_1 (FcNew false)),(FcNew true))).2.got.length) ((itr (FcClosesl0) 4 ((FcBegin_1 (FcNew false)),(FcNew true))).2.got)),(209,.ints .u8 ((itr (FcClosesl0) 4 ((FcBegin_1 (FcNew false)),(FcNew true))).2.wait.length) ((itr (FcClosesl0) 4 ((FcBegin_1 (FcNew false)),(FcNew true))).2.wait)),(208,chC 209 210 211 ((itr (FcClosesl0) 4 ((FcBegin_1 (FcNew false)),(FcNew true))).2))])
        400 (by kernel_rfl) rfl (by kernel_rfl) (⟨tt,trivial⟩) ?_
      refine Tri.cond (x:=p0) (by kernel_rfl) (fun h5 => ?_) (fun h5 => ?_)
      ·
       refine Tri.region' [] none [10,9,1,2] [274,273,272,192,211,210,209,208] (TT∧(TT∧(TT∧(TT∧True))))
         ([(10,.sc (.p 192 0)),(9,.sc (.p 208 0)),(1,.sc (.ro .u8 p1)),(2,.sc (.ro .u8 p2))],[(274,.vec .row ((itr (FcClosesl0) 4 ((FcBegin_1 (FcNew false)),(FcNew true))).1.out)),(273,.ints .u8 ((itr (FcClosesl0) 4 ((FcBegin_1 (FcNew false)),(FcNew true))).1.got.length) ((itr (FcClosesl0) 4 ((FcBegin_1 (FcNew false)),(FcNew true))).1.got)),(272,.ints .u8 ((itr (FcClosesl0) 4 ((FcBegin_1 (FcNew false)),(FcNew true))).1.wait.length) ((itr (FcClosesl0) 4 ((FcBegin_1 (FcNew false)),(FcNew true))).1.wait)),(192,chC 272 273 274 ((itr (FcClosesl0) 4 ((FcBegin_1 (FcNew false)),(FcNew true))).1)),(211,.vec .row ((itr (FcClosesl0) 4 ((FcBegin_1 (FcNew false)),(FcNew true))).2.out)),(210,.ints .u8 ((itr (FcClosesl0) 4 ((FcBegin_1 (FcNew false)),(FcNew true))).2.got.length) ((itr (FcClosesl0) 4 ((FcBegin_1 (FcNew false)),(FcNew true))).2.got)),(209,.ints .u8 ((itr (FcClosesl0) 4 ((FcBegin_1 (FcNew false)),(FcNew true))).2.wait.length) ((itr (FcClosesl0) 4 ((FcBegin_1 (FcNew false)),(FcNew true))).2.wait)),(208,chC 209 210 211 ((itr (FcClosesl0) 4 ((FcBegin_1 (FcNew false)),(FcNew true))).2))])
         464 (by kernel_rfl) rfl (by kernel_rfl) (⟨tt,⟨tt,⟨tt,⟨tt,trivial⟩⟩⟩⟩) ?_
       change Tri _ _ _ _ _ _
       refine Tri.seq_region [] none [10,9,1,2] [498,497,496,208,274,273,272,192] (TT∧(TT∧(((TT∧((chLens (((itr (FcClosesl0) 4 ((FcBegin_1 (FcNew false)),(FcNew true))).2).wait.length) (((itr (FcClosesl0) 4 ((FcBegin_1 (FcNew false)),(FcNew true))).2).got.length) (((itr (FcClosesl0) 4 ((FcBegin_1 (FcNew false)),(FcNew true))).2).out.length) (((itr (FcClosesl0) 4 ((FcBegin_1 (FcNew false)),(FcNew true))).2).wait.length) (((itr (FcClosesl0) 4 ((FcBegin_1 (FcNew false)),(FcNew true))).2).got.length) ((itr (FcClosesl0) 4 ((FcBegin_1 (FcNew false)),(FcNew true))).2))∧(chFlow ((itr (FcClosesl0) 4 ((FcBegin_1 (FcNew false)),(FcNew true))).2)∧((itr (FcClosesl0) 4 ((FcBegin_1 (FcNew false)),(FcNew true))).2).out.length + ((itr (FcClosesl0) 4 ((FcBegin_1 (FcNew false)),(FcNew true))).2).wait.length + p1.length≤1000000000)))∧True)∧True)))
         ([(10,.sc (.p 192 0)),(9,.sc (.p 208 0)),(1,.sc (.ro .u8 p1)),(2,.sc (.ro .u8 p2))],[(498,.vec .row ((FcClosesv4 p1).out)),(497,.ints .u8 ((FcClosesv4 p1).got.length) ((FcClosesv4 p1).got)),(496,.ints .u8 ((FcClosesv4 p1).wait.length) ((FcClosesv4 p1).wait)),(208,chC 496 497 498 (FcClosesv4 p1)),(274,.vec .row ((itr (FcClosesl0) 4 ((FcBegin_1 (FcNew false)),(FcNew true))).1.out)),(273,.ints .u8 ((itr (FcClosesl0) 4 ((FcBegin_1 (FcNew false)),(FcNew true))).1.got.length) ((itr (FcClosesl0) 4 ((FcBegin_1 (FcNew false)),(FcNew true))).1.got)),(272,.ints .u8 ((itr (FcClosesl0) 4 ((FcBegin_1 (FcNew false)),(FcNew true))).1.wait.length) ((itr (FcClosesl0) 4 ((FcBegin_1 (FcNew false)),(FcNew true))).1.wait)),(192,chC 272 273 274 ((itr (FcClosesl0) 4 ((FcBegin_1 (FcNew false)),(FcNew true))).1))])
         512 (by kernel_rfl) rfl (by kernel_rfl) (⟨tt,⟨tt,⟨⟨⟨tt,⟨(chLens_self _),((by first | (rw [Closes_l1 hC (by assumption)]; exact (send_pre (!true) (by omega)).2.2) | (rw [(Closes_v4 hC (by assumption)).1,(close_is true _).2]; exact (send_pre true (by omega)).2.1) | (rw [Closes_loop]; exact (send_pre true (by omega)).1) | (rw [Closes_l2 hC (by assumption)]; exact (send_pre (!false) (by omega)).2.2) | (rw [(Closes_v14 hC (by assumption)).1,(close_is false _).2]; exact (send_pre false (by omega)).2.1) | (rw [Closes_loop]; exact (send_pre false (by omega)).1)))⟩⟩,trivial⟩,trivial⟩⟩⟩) ?_
       refine Tri.seq ?_
       refine Tri.split (((FcClose (FcClosesv4 p1)):Int) != 0) (fun h6 => ?_) (fun h6 => ?_)
       ·
        have h6':=ne_true_i h6
        refine Tri.seq_region [(47,qb true)] none [62,10,9,1,2] [530,529,528,208,274,273,272,192] (TT∧(((True∧((chLens ((FcClosesv4 p1).wait.length) ((FcClosesv4 p1).got.length) ((FcClosesv4 p1).out.length) ((FcClosesv4 p1).wait.length) ((FcClosesv4 p1).got.length) (FcClosesv4 p1))∧((FcClosesv4 p1).out.length≤900000000)))∧True)∧(TT∧((True∧((((FcClose (FcClosesv4 p1)):Int) != 0)=true))∧(TT∧(TT∧(TT∧(TT∧(TT∧(TT∧(TT∧(TT∧(TT∧(TT∧(TT∧(TT∧(TT∧(TT∧(TT∧True)))))))))))))))))))
          ([(62,.sc (.b true)),(10,.sc (.p 192 0)),(9,.sc (.p 208 0)),(1,.sc (.ro .u8 p1)),(2,.sc (.ro .u8 p2))],[(530,.vec .row ((FcClose_1 (FcClosesv4 p1)).out)),(529,.ints .u8 ((FcClose_1 (FcClosesv4 p1)).got.length) ((FcClose_1 (FcClosesv4 p1)).got)),(528,.ints .u8 ((FcClose_1 (FcClosesv4 p1)).wait.length) ((FcClose_1 (FcClosesv4 p1)).wait)),(208,chC 528 529 530 (FcClose_1 (FcClosesv4 p1))),(274,.vec .row ((itr (FcClosesl0) 4 ((FcBegin_1 (FcNew false)),(FcNew true))).1.out)),(273,.ints .u8 ((itr (FcClosesl0) 4 ((FcBegin_1 (FcNew false)),(FcNew true))).1.got.length) ((itr (FcClosesl0) 4 ((FcBegin_1 (FcNew false)),(FcNew true))).1.got)),(272,.ints .u8 ((itr (FcClosesl0) 4 ((FcBegin_1 (FcNew false)),(FcNew true))).1.wait.length) ((itr (FcClosesl0) 4 ((FcBegin_1 (FcNew false)),(FcNew true))).1.wait)),(192,chC 272 273 274 ((itr (FcClosesl0) 4 ((FcBegin_1 (FcNew false)),(FcNew true))).1))])
          816 (by kernel_rfl) rfl (by kernel_rfl) (⟨tt,⟨⟨⟨trivial,⟨(chLens_self _),((by first | (rw [(Closes_v4 hC (by assumption)).1]; exact (close_pre true (by omega)).1) | (rw [(Closes_v4 hC (by assumption)).2.1]; exact (close_pre true (by omega)).2.1) | (rw [(Closes_v14 hC (by assumption)).1]; exact (close_pre false (by omega)).1) | (rw [(Closes_v14 hC (by assumption)).2.1]; exact (close_pre false (by omega)).2.1)))⟩⟩,trivial⟩,⟨tt,⟨⟨trivial,(h6)⟩,⟨tt,⟨tt,⟨tt,⟨tt,⟨tt,⟨tt,⟨tt,⟨tt,⟨tt,⟨tt,⟨tt,⟨tt,⟨tt,⟨tt,⟨tt,trivial⟩⟩⟩⟩⟩⟩⟩⟩⟩⟩⟩⟩⟩⟩⟩⟩⟩⟩⟩) ?_
        refine Tri.cond_true (by kernel_rfl) ?_
        refine Tri.seq_region [] none [6] [] (TT∧True)
          ([(6,.sc (.b false))],[])
          832 (by kernel_rfl) rfl (by kernel_rfl) (⟨tt,trivial⟩) ?_
        refine Tri.ret ?_
        repeat (first | refine thenP_ret ?_ | refine blkP_ret ?_ | refine countP_ret ?_ | refine joinP_ret ?_ | refine iterP_ret ?_)
        refine endP.conv (r':=⟨.sc (.b false),[]⟩) (by simp only [chC,FcCloses,h1,h2,h3,h5,h6,sel_true,sel_false]) ?_
        exact endP.ret [] TT (by kernel_rfl) (by kernel_rfl) tt
       ·
        have h6':=ne_false_i h6
        refine Tri.split (((FcSend (FcClose_1 (FcClosesv4 p1)) p1):Int) != 8) (fun h7 => ?_) (fun h7 => ?_)
        ·
         have h7':=ne_true_i h7
         refine Tri.seq_region [(47,qb false),(53,qb true)] none [62,10,9,1,2] [610,609,608,208,274,273,272,192] (TT∧(((True∧((chLens ((FcClosesv4 p1).wait.length) ((FcClosesv4 p1).got.length) ((FcClosesv4 p1).out.length) ((FcClosesv4 p1).wait.length) ((FcClosesv4 p1).got.length) (FcClosesv4 p1))∧((FcClosesv4 p1).out.length≤900000000)))∧True)∧(TT∧((True∧((((FcClose (FcClosesv4 p1)):Int) != 0)=false))∧(TT∧(TT∧(((TT∧((chLens ((FcClose_1 (FcClosesv4 p1)).wait.length) ((FcClose_1 (FcClosesv4 p1)).got.length) ((FcClose_1 (FcClosesv4 p1)).out.length) ((FcClose_1 (FcClosesv4 p1)).wait.length) ((FcClose_1 (FcClosesv4 p1)).got.length) (FcClose_1 (FcClosesv4 p1)))∧(chFlow (FcClose_1 (FcClosesv4 p1))∧(FcClose_1 (FcClosesv4 p1)).out.length + (FcClose_1 (FcClosesv4 p1)).wait.length + p1.length≤1000000000)))∧True)∧(TT∧(TT∧((True∧((((FcSend (FcClose_1 (FcClosesv4 p1)) p1):Int) != 8)=true))∧(TT∧(TT∧(TT∧(TT∧(TT∧(TT∧(TT∧(TT∧(TT∧True)))))))))))))))))))
           ([(62,.sc (.b true)),(10,.sc (.p 192 0)),(9,.sc (.p 208 0)),(1,.sc (.ro .u8 p1)),(2,.sc (.ro .u8 p2))],[(610,.vec .row ((FcClosesv5 p1).out)),(609,.ints .u8 ((FcClosesv5 p1).got.length) ((FcClosesv5 p1).got)),(608,.ints .u8 ((FcClosesv5 p1).wait.length) ((FcClosesv5 p1).wait)),(208,chC 608 609 610 (FcClosesv5 p1)),(274,.vec .row ((itr (FcClosesl0) 4 ((FcBegin_1 (FcNew false)),(FcNew true))).1.out)),(273,.ints .u8 ((itr (FcClosesl0) 4 ((FcBegin_1 (FcNew false)),(FcNew true))).1.got.length) ((itr (FcClosesl0) 4 ((FcBegin_1 (FcNew false)),(FcNew true))).1.got)),(272,.ints .u8 ((itr (FcClosesl0) 4 ((FcBegin_1 (FcNew false)),(FcNew true))).1.wait.length) ((itr (FcClosesl0) 4 ((FcBegin_1 (FcNew false)),(FcNew true))).1.wait)),(192,chC 272 273 274 ((itr (FcClosesl0) 4 ((FcBegin_1 (FcNew false)),(FcNew true))).1))])
           816 (by kernel_rfl) rfl (by kernel_rfl) (⟨tt,⟨⟨⟨trivial,⟨(chLens_self _),((by first | (rw [(Closes_v4 hC (by assumption)).1]; exact (close_pre true (by omega)).1) | (rw [(Closes_v4 hC (by assumption)).2.1]; exact (close_pre true (by omega)).2.1) | (rw [(Closes_v14 hC (by assumption)).1]; exact (close_pre false (by omega)).1) | (rw [(Closes_v14 hC (by assumption)).2.1]; exact (close_pre false (by omega)).2.1)))⟩⟩,trivial⟩,⟨tt,⟨⟨trivial,(h6)⟩,⟨tt,⟨tt,⟨⟨⟨tt,⟨(chLens_self _),((by first | (rw [Closes_l1 hC (by assumption)]; exact (send_pre (!true) (by omega)).2.2) | (rw [(Closes_v4 hC (by assumption)).1,(close_is true _).2]; exact (send_pre true (by omega)).2.1) | (rw [Closes_loop]; exact (send_pre true (by omega)).1) | (rw [Closes_l2 hC (by assumption)]; exact (send_pre (!false) (by omega)).2.2) | (rw [(Closes_v14 hC (by assumption)).1,(close_is false _).2]; exact (send_pre false (by omega)).2.1) | (rw [Closes_loop]; exact (send_pre false (by omega)).1)))⟩⟩,trivial⟩,⟨tt,⟨tt,⟨⟨trivial,(h7)⟩,⟨tt,⟨tt,⟨tt,⟨tt,⟨tt,⟨tt,⟨tt,⟨tt,⟨tt,trivial⟩⟩⟩⟩⟩⟩⟩⟩⟩⟩⟩⟩⟩⟩⟩⟩⟩⟩⟩) ?_
         refine Tri.cond_true (by kernel_rfl) ?_
         refine Tri.seq_region [] none [6] [] (TT∧True)
           ([(6,.sc (.b false))],[])
           832 (by kernel_rfl) rfl (by kernel_rfl) (⟨tt,trivial⟩) ?_
         refine Tri.ret ?_
         repeat (first | refine thenP_ret ?_ | refine blkP_ret ?_ | refine countP_ret ?_ | refine joinP_ret ?_ | refine iterP_ret ?_)
         refine endP.conv (r':=⟨.sc (.b false),[]⟩) (by simp only [chC,FcCloses,h1,h2,h3,h5,h6,h7,sel_true,sel_false]) ?_
         exact endP.ret [] TT (by kernel_rfl) (by kernel_rfl) tt
        ·
         have h7':=ne_false_i h7
         refine Tri.split (((FcClose (FcClosesv5 p1)):Int) != 8) (fun h8 => ?_) (fun h8 => ?_)
         ·
          have h8':=ne_true_i h8
          refine Tri.seq_region [(47,qb false),(53,qb false),(58,qb true)] none [62,10,9,1,2] [690,689,688,208,274,273,272,192] (TT∧(((True∧((chLens ((FcClosesv4 p1).wait.length) ((FcClosesv4 p1).got.length) ((FcClosesv4 p1).out.length) ((FcClosesv4 p1).wait.length) ((FcClosesv4 p1).got.length) (FcClosesv4 p1))∧((FcClosesv4 p1).out.length≤900000000)))∧True)∧(TT∧((True∧((((FcClose (FcClosesv4 p1)):Int) != 0)=false))∧(TT∧(TT∧(((TT∧((chLens ((FcClose_1 (FcClosesv4 p1)).wait.length) ((FcClose_1 (FcClosesv4 p1)).got.length) ((FcClose_1 (FcClosesv4 p1)).out.length) ((FcClose_1 (FcClosesv4 p1)).wait.length) ((FcClose_1 (FcClosesv4 p1)).got.length) (FcClose_1 (FcClosesv4 p1)))∧(chFlow (FcClose_1 (FcClosesv4 p1))∧(FcClose_1 (FcClosesv4 p1)).out.length + (FcClose_1 (FcClosesv4 p1)).wait.length + p1.length≤1000000000)))∧True)∧(TT∧(TT∧((True∧((((FcSend (FcClose_1 (FcClosesv4 p1)) p1):Int) != 8)=false))∧(TT∧(((True∧((chLens ((FcClosesv5 p1).wait.length) ((FcClosesv5 p1).got.length) ((FcClosesv5 p1).out.length) ((FcClosesv5 p1).wait.length) ((FcClosesv5 p1).got.length) (FcClosesv5 p1))∧((FcClosesv5 p1).out.length≤900000000)))∧True)∧(TT∧(TT∧((True∧((((FcClose (FcClosesv5 p1)):Int) != 8)=true))∧(TT∧(TT∧(TT∧(TT∧True)))))))))))))))))))
            ([(62,.sc (.b true)),(10,.sc (.p 192 0)),(9,.sc (.p 208 0)),(1,.sc (.ro .u8 p1)),(2,.sc (.ro .u8 p2))],[(690,.vec .row ((FcClose_1 (FcClosesv5 p1)).out)),(689,.ints .u8 ((FcClose_1 (FcClosesv5 p1)).got.length) ((FcClose_1 (FcClosesv5 p1)).got)),(688,.ints .u8 ((FcClose_1 (FcClosesv5 p1)).wait.length) ((FcClose_1 (FcClosesv5 p1)).wait)),(208,chC 688 689 690 (FcClose_1 (FcClosesv5 p1))),(274,.vec .row ((itr (FcClosesl0) 4 ((FcBegin_1 (FcNew false)),(FcNew true))).1.out)),(273,.ints .u8 ((itr (FcClosesl0) 4 ((FcBegin_1 (FcNew false)),(FcNew true))).1.got.length) ((itr (FcClosesl0) 4 ((FcBegin_1 (FcNew false)),(FcNew true))).1.got)),(272,.ints .u8 ((itr (FcClosesl0) 4 ((FcBegin_1 (FcNew false)),(FcNew true))).1.wait.length) ((itr (FcClosesl0) 4 ((FcBegin_1 (FcNew false)),(FcNew true))).1.wait)),(192,chC 272 273 274 ((itr (FcClosesl0) 4 ((FcBegin_1 (FcNew false)),(FcNew true))).1))])
            816 (by kernel_rfl) rfl (by kernel_rfl) (⟨tt,⟨⟨⟨trivial,⟨(chLens_self _),((by first | (rw [(Closes_v4 hC (by assumption)).1]; exact (close_pre true (by omega)).1) | (rw [(Closes_v4 hC (by assumption)).2.1]; exact (close_pre true (by omega)).2.1) | (rw [(Closes_v14 hC (by assumption)).1]; exact (close_pre false (by omega)).1) | (rw [(Closes_v14 hC (by assumption)).2.1]; exact (close_pre false (by omega)).2.1)))⟩⟩,trivial⟩,⟨tt,⟨⟨trivial,(h6)⟩,⟨tt,⟨tt,⟨⟨⟨tt,⟨(chLens_self _),((by first | (rw [Closes_l1 hC (by assumption)]; exact (send_pre (!true) (by omega)).2.2) | (rw [(Closes_v4 hC (by assumption)).1,(close_is true _).2]; exact (send_pre true (by omega)).2.1) | (rw [Closes_loop]; exact (send_pre true (by omega)).1) | (rw [Closes_l2 hC (by assumption)]; exact (send_pre (!false) (by omega)).2.2) | (rw [(Closes_v14 hC (by assumption)).1,(close_is false _).2]; exact (send_pre false (by omega)).2.1) | (rw [Closes_loop]; exact (send_pre false (by omega)).1)))⟩⟩,trivial⟩,⟨tt,⟨tt,⟨⟨trivial,(h7)⟩,⟨tt,⟨⟨⟨trivial,⟨(chLens_self _),((by first | (rw [(Closes_v4 hC (by assumption)).1]; exact (close_pre true (by omega)).1) | (rw [(Closes_v4 hC (by assumption)).2.1]; exact (close_pre true (by omega)).2.1) | (rw [(Closes_v14 hC (by assumption)).1]; exact (close_pre false (by omega)).1) | (rw [(Closes_v14 hC (by assumption)).2.1]; exact (close_pre false (by omega)).2.1)))⟩⟩,trivial⟩,⟨tt,⟨tt,⟨⟨trivial,(h8)⟩,⟨tt,⟨tt,⟨tt,⟨tt,trivial⟩⟩⟩⟩⟩⟩⟩⟩⟩⟩⟩⟩⟩⟩⟩⟩⟩⟩⟩) ?_
          refine Tri.cond_true (by kernel_rfl) ?_
          refine Tri.seq_region [] none [6] [] (TT∧True)
            ([(6,.sc (.b false))],[])
            832 (by kernel_rfl) rfl (by kernel_rfl) (⟨tt,trivial⟩) ?_
          refine Tri.ret ?_
          repeat (first | refine thenP_ret ?_ | refine blkP_ret ?_ | refine countP_ret ?_ | refine joinP_ret ?_ | refine iterP_ret ?_)
          refine endP.conv (r':=⟨.sc (.b false),[]⟩) (by simp only [chC,FcCloses,h1,h2,h3,h5,h6,h7,h8,sel_true,sel_false]) ?_
          exact endP.ret [] TT (by kernel_rfl) (by kernel_rfl) tt
         ·
          have h8':=ne_false_i h8
          refine Tri.seq_region [(47,qb false),(53,qb false),(58,qb false)] none [62,10,9,1,2] [690,689,688,208,274,273,272,192] (TT∧(((True∧((chLens ((FcClosesv4 p1).wait.length) ((FcClosesv4 p1).got.length) ((FcClosesv4 p1).out.length) ((FcClosesv4 p1).wait.length) ((FcClosesv4 p1).got.length) (FcClosesv4 p1))∧((FcClosesv4 p1).out.length≤900000000)))∧True)∧(TT∧((True∧((((FcClose (FcClosesv4 p1)):Int) != 0)=false))∧(TT∧(TT∧(((TT∧((chLens ((FcClose_1 (FcClosesv4 p1)).wait.length) ((FcClose_1 (FcClosesv4 p1)).got.length) ((FcClose_1 (FcClosesv4 p1)).out.length) ((FcClose_1 (FcClosesv4 p1)).wait.length) ((FcClose_1 (FcClosesv4 p1)).got.length) (FcClose_1 (FcClosesv4 p1)))∧(chFlow (FcClose_1 (FcClosesv4 p1))∧(FcClose_1 (FcClosesv4 p1)).out.length + (FcClose_1 (FcClosesv4 p1)).wait.length + p1.length≤1000000000)))∧True)∧(TT∧(TT∧((True∧((((FcSend (FcClose_1 (FcClosesv4 p1)) p1):Int) != 8)=false))∧(TT∧(((True∧((chLens ((FcClosesv5 p1).wait.length) ((FcClosesv5 p1).got.length) ((FcClosesv5 p1).out.length) ((FcClosesv5 p1).wait.length) ((FcClosesv5 p1).got.length) (FcClosesv5 p1))∧((FcClosesv5 p1).out.length≤900000000)))∧True)∧(TT∧(TT∧((True∧((((FcClose (FcClosesv5 p1)):Int) != 8)=false))∧(TT∧((((True∧((chLens ((FcClose_1 (FcClosesv5 p1)).wait.length) ((FcClose_1 (FcClosesv5 p1)).got.length) ((FcClose_1 (FcClosesv5 p1)).out.length) ((FcClose_1 (FcClosesv5 p1)).wait.length) ((FcClose_1 (FcClosesv5 p1)).got.length) (FcClose_1 (FcClosesv5 p1)))∧True))∧(([some (chC 688 689 690 (FcClose_1 (FcClosesv5 p1))),some (.ints .u8 ((FcClose_1 (FcClosesv5 p1)).wait.length) ((FcClose_1 (FcClosesv5 p1)).wait)),some (.ints .u8 ((FcClose_1 (FcClosesv5 p1)).got.length) ((FcClose_1 (FcClosesv5 p1)).got)),some (.vec .row ((FcClose_1 (FcClosesv5 p1)).out))]:List (Option Blk))=[some (chC 688 689 690 (FcClose_1 (FcClosesv5 p1))),some (.ints .u8 ((FcClose_1 (FcClosesv5 p1)).wait.length) ((FcClose_1 (FcClosesv5 p1)).wait)),some (.ints .u8 ((FcClose_1 (FcClosesv5 p1)).got.length) ((FcClose_1 (FcClosesv5 p1)).got)),some (.vec .row ((FcClose_1 (FcClosesv5 p1)).out))]))∧True)∧(TT∧(TT∧True)))))))))))))))))))
            ([(62,.sc (.b (((FcPending (FcClose_1 (FcClosesv5 p1))):Int) != 0))),(10,.sc (.p 192 0)),(9,.sc (.p 208 0)),(1,.sc (.ro .u8 p1)),(2,.sc (.ro .u8 p2))],[(690,.vec .row ((FcClose_1 (FcClosesv5 p1)).out)),(689,.ints .u8 ((FcClose_1 (FcClosesv5 p1)).got.length) ((FcClose_1 (FcClosesv5 p1)).got)),(688,.ints .u8 ((FcClose_1 (FcClosesv5 p1)).wait.length) ((FcClose_1 (FcClosesv5 p1)).wait)),(208,chC 688 689 690 (FcClose_1 (FcClosesv5 p1))),(274,.vec .row ((itr (FcClosesl0) 4 ((FcBegin_1 (FcNew false)),(FcNew true))).1.out)),(273,.ints .u8 ((itr (FcClosesl0) 4 ((FcBegin_1 (FcNew false)),(FcNew true))).1.got.length) ((itr (FcClosesl0) 4 ((FcBegin_1 (FcNew false)),(FcNew true))).1.got)),(272,.ints .u8 ((itr (FcClosesl0) 4 ((FcBegin_1 (FcNew false)),(FcNew true))).1.wait.length) ((itr (FcClosesl0) 4 ((FcBegin_1 (FcNew false)),(FcNew true))).1.wait)),(192,chC 272 273 274 ((itr (FcClosesl0) 4 ((FcBegin_1 (FcNew false)),(FcNew true))).1))])
            816 (by kernel_rfl) rfl (by kernel_rfl) (⟨tt,⟨⟨⟨trivial,⟨(chLens_self _),((by first | (rw [(Closes_v4 hC (by assumption)).1]; exact (close_pre true (by omega)).1) | (rw [(Closes_v4 hC (by assumption)).2.1]; exact (close_pre true (by omega)).2.1) | (rw [(Closes_v14 hC (by assumption)).1]; exact (close_pre false (by omega)).1) | (rw [(Closes_v14 hC (by assumption)).2.1]; exact (close_pre false (by omega)).2.1)))⟩⟩,trivial⟩,⟨tt,⟨⟨trivial,(h6)⟩,⟨tt,⟨tt,⟨⟨⟨tt,⟨(chLens_self _),((by first | (rw [Closes_l1 hC (by assumption)]; exact (send_pre (!true) (by omega)).2.2) | (rw [(Closes_v4 hC (by assumption)).1,(close_is true _).2]; exact (send_pre true (by omega)).2.1) | (rw [Closes_loop]; exact (send_pre true (by omega)).1) | (rw [Closes_l2 hC (by assumption)]; exact (send_pre (!false) (by omega)).2.2) | (rw [(Closes_v14 hC (by assumption)).1,(close_is false _).2]; exact (send_pre false (by omega)).2.1) | (rw [Closes_loop]; exact (send_pre false (by omega)).1)))⟩⟩,trivial⟩,⟨tt,⟨tt,⟨⟨trivial,(h7)⟩,⟨tt,⟨⟨⟨trivial,⟨(chLens_self _),((by first | (rw [(Closes_v4 hC (by assumption)).1]; exact (close_pre true (by omega)).1) | (rw [(Closes_v4 hC (by assumption)).2.1]; exact (close_pre true (by omega)).2.1) | (rw [(Closes_v14 hC (by assumption)).1]; exact (close_pre false (by omega)).1) | (rw [(Closes_v14 hC (by assumption)).2.1]; exact (close_pre false (by omega)).2.1)))⟩⟩,trivial⟩,⟨tt,⟨tt,⟨⟨trivial,(h8)⟩,⟨tt,⟨⟨⟨⟨trivial,⟨(chLens_self _),trivial⟩⟩,(rfl)⟩,trivial⟩,⟨tt,⟨tt,trivial⟩⟩⟩⟩⟩⟩⟩⟩⟩⟩⟩⟩⟩⟩⟩⟩⟩⟩⟩) ?_
          refine Tri.cond (x:=(((FcPending (FcClose_1 (FcClosesv5 p1))):Int) != 0)) (by kernel_rfl) (fun h9 => ?_) (fun h9 => ?_)
          ·
           have h9':=ne_true_i h9
           refine Tri.seq_region [] none [6] [] (TT∧True)
             ([(6,.sc (.b false))],[])
             832 (by kernel_rfl) rfl (by kernel_rfl) (⟨tt,trivial⟩) ?_
           refine Tri.ret ?_
           repeat (first | refine thenP_ret ?_ | refine blkP_ret ?_ | refine countP_ret ?_ | refine joinP_ret ?_ | refine iterP_ret ?_)
           refine endP.conv (r':=⟨.sc (.b false),[]⟩) (by simp only [chC,FcCloses,h1,h2,h3,h5,h6,h7,h8,h9,sel_true,sel_false]) ?_
           exact endP.ret [] TT (by kernel_rfl) (by kernel_rfl) tt
          ·
           have h9':=ne_false_i h9
           refine Tri.skip ?_
           change Tri _ _ _ _ _ _
           refine Tri.seq ?_
           refine Tri.seq_region [] none [63,10,9,1,2] [690,689,688,208,274,273,272,192] (TT∧True)
             ([(63,.sc (.i .i64 0)),(10,.sc (.p 192 0)),(9,.sc (.p 208 0)),(1,.sc (.ro .u8 p1)),(2,.sc (.ro .u8 p2))],[(690,.vec .row ((FcClose_1 (FcClosesv5 p1)).out)),(689,.ints .u8 ((FcClose_1 (FcClosesv5 p1)).got.length) ((FcClose_1 (FcClosesv5 p1)).got)),(688,.ints .u8 ((FcClose_1 (FcClosesv5 p1)).wait.length) ((FcClose_1 (FcClosesv5 p1)).wait)),(208,chC 688 689 690 (FcClose_1 (FcClosesv5 p1))),(274,.vec .row ((itr (FcClosesl0) 4 ((FcBegin_1 (FcNew false)),(FcNew true))).1.out)),(273,.ints .u8 ((itr (FcClosesl0) 4 ((FcBegin_1 (FcNew false)),(FcNew true))).1.got.length) ((itr (FcClosesl0) 4 ((FcBegin_1 (FcNew false)),(FcNew true))).1.got)),(272,.ints .u8 ((itr (FcClosesl0) 4 ((FcBegin_1 (FcNew false)),(FcNew true))).1.wait.length) ((itr (FcClosesl0) 4 ((FcBegin_1 (FcNew false)),(FcNew true))).1.wait)),(192,chC 272 273 274 ((itr (FcClosesl0) 4 ((FcBegin_1 (FcNew false)),(FcNew true))).1))])
             832 (by kernel_rfl) rfl (by kernel_rfl) (⟨tt,trivial⟩) ?_
           refine Tri.block ?_
           refine Tri.count 832 3 (FcClosesl1) ((FcClose_1 (FcClosesv5 p1)),(itr (FcClosesl0) 4 ((FcBegin_1 (FcNew false)),(FcNew true))).1) (fun k1 z1 => True) (fun k1 z1 => ([(63,.sc (.i .i64 (k1:Int))),(10,.sc (.p 192 0)),(9,.sc (.p 208 0)),(1,.sc (.ro .u8 p1)),(2,.sc (.ro .u8 p2))],[(690,.vec .row z1.1.out),(689,.ints .u8 z1.1.got.length z1.1.got),(688,.ints .u8 z1.1.wait.length z1.1.wait),(208,chC 688 689 690 z1.1),(274,.vec .row z1.2.out),(273,.ints .u8 z1.2.got.length z1.2.got),(272,.ints .u8 z1.2.wait.length z1.2.wait),(192,chC 272 273 274 z1.2)])) trivial (Sub.of_eq (by kernel_rfl)) ?_
           intro k1 z1 hk1 hz1 hJ1
           refine Tri.seq_region [] none [64,63,10,9,1,2] [690,689,688,208,274,273,272,192] (TT∧True)
             ([(64,.sc (.b (decide (((k1:Int):Int) < 3)))),(63,.sc (.i .i64 (k1:Int))),(10,.sc (.p 192 0)),(9,.sc (.p 208 0)),(1,.sc (.ro .u8 p1)),(2,.sc (.ro .u8 p2))],[(690,.vec .row z1.1.out),(689,.ints .u8 z1.1.got.length z1.1.got),(688,.ints .u8 z1.1.wait.length z1.1.wait),(208,chC 688 689 690 z1.1),(274,.vec .row z1.2.out),(273,.ints .u8 z1.2.got.length z1.2.got),(272,.ints .u8 z1.2.wait.length z1.2.wait),(192,chC 272 273 274 z1.2)])
             848 (by kernel_rfl) rfl (by kernel_rfl) (⟨tt,trivial⟩) ?_
           refine Tri.seq ?_
           refine Tri.cond (x:=(decide (((k1:Int):Int) < 3))) (by kernel_rfl) (fun h10 => ?_) (fun h10 => ?_)
           ·
            have h10':=of_decide_eq_true h10
            refine Tri.skip ?_
            change Tri _ _ _ _ _ _
            refine Tri.seq ?_
            refine Tri.block ?_
            refine Tri.seq_region [] none [63,10,9,1,2] [885,884,883,882,881,880,192,208] (TT∧(TT∧(((True∧((chLens z1.1.wait.length z1.1.got.length z1.1.out.length z1.1.wait.length z1.1.got.length z1.1)∧((chLens z1.2.wait.length z1.2.got.length z1.2.out.length z1.2.wait.length z1.2.got.length z1.2)∧(chOk 1000000 z1.2∧z1.1.out.length≤100000))))∧True)∧True)))
              ([(63,.sc (.i .i64 (k1:Int))),(10,.sc (.p 192 0)),(9,.sc (.p 208 0)),(1,.sc (.ro .u8 p1)),(2,.sc (.ro .u8 p2))],[(885,.vec .row ((Fccarry_1 z1.1 z1.2).out)),(884,.ints .u8 ((Fccarry_1 z1.1 z1.2).got.length) ((Fccarry_1 z1.1 z1.2).got)),(883,.ints .u8 ((Fccarry_1 z1.1 z1.2).wait.length) ((Fccarry_1 z1.1 z1.2).wait)),(882,.vec .row ((Fccarry z1.1 z1.2).out)),(881,.ints .u8 ((Fccarry z1.1 z1.2).got.length) ((Fccarry z1.1 z1.2).got)),(880,.ints .u8 ((Fccarry z1.1 z1.2).wait.length) ((Fccarry z1.1 z1.2).wait)),(192,chC 883 884 885 (Fccarry_1 z1.1 z1.2)),(208,chC 880 881 882 (Fccarry z1.1 z1.2))])
              896 (by kernel_rfl) rfl (by kernel_rfl) (⟨tt,⟨tt,⟨⟨⟨trivial,⟨(chLens_self _),⟨(chLens_self _),((by first | exact (Closes_at (by omega) hz0).1 | exact (Closes_at (by omega) hz0).2 | exact (carry_pre true false hC (by omega) k1 (hz1.trans (Closes_l1 hC (by assumption) k1))).1 | exact (carry_pre true false hC (by omega) k1 (hz1.trans (Closes_l1 hC (by assumption) k1))).2 | exact (carry_pre false true hC (by omega) k2 (hz2.trans (Closes_l2 hC (by assumption) k2))).1 | exact (carry_pre false true hC (by omega) k2 (hz2.trans (Closes_l2 hC (by assumption) k2))).2))⟩⟩⟩,trivial⟩,trivial⟩⟩⟩) ?_
            refine Tri.region' [] none [63,10,9,1,2] [933,932,931,930,929,928,208,192] (TT∧(TT∧(((True∧((chLens ((Fccarry_1 z1.1 z1.2).wait.length) ((Fccarry_1 z1.1 z1.2).got.length) ((Fccarry_1 z1.1 z1.2).out.length) ((Fccarry_1 z1.1 z1.2).wait.length) ((Fccarry_1 z1.1 z1.2).got.length) (Fccarry_1 z1.1 z1.2))∧((chLens ((Fccarry z1.1 z1.2).wait.length) ((Fccarry z1.1 z1.2).got.length) ((Fccarry z1.1 z1.2).out.length) ((Fccarry z1.1 z1.2).wait.length) ((Fccarry z1.1 z1.2).got.length) (Fccarry z1.1 z1.2))∧(chOk 1000000 (Fccarry z1.1 z1.2)∧(Fccarry_1 z1.1 z1.2).out.length≤100000))))∧True)∧True)))
              ([(63,.sc (.i .i64 (k1:Int))),(10,.sc (.p 192 0)),(9,.sc (.p 208 0)),(1,.sc (.ro .u8 p1)),(2,.sc (.ro .u8 p2))],[(933,.vec .row ((FcClosesv11 z1).out)),(932,.ints .u8 ((FcClosesv11 z1).got.length) ((FcClosesv11 z1).got)),(931,.ints .u8 ((FcClosesv11 z1).wait.length) ((FcClosesv11 z1).wait)),(930,.vec .row ((FcClosesv10 z1).out)),(929,.ints .u8 ((FcClosesv10 z1).got.length) ((FcClosesv10 z1).got)),(928,.ints .u8 ((FcClosesv10 z1).wait.length) ((FcClosesv10 z1).wait)),(208,chC 931 932 933 (FcClosesv11 z1)),(192,chC 928 929 930 (FcClosesv10 z1))])
              944 (by kernel_rfl) rfl (by kernel_rfl) (⟨tt,⟨tt,⟨⟨⟨trivial,⟨(chLens_self _),⟨(chLens_self _),((by first | exact (Closes_at (by omega) hz0).1 | exact (Closes_at (by omega) hz0).2 | exact (carry_pre true false hC (by omega) k1 (hz1.trans (Closes_l1 hC (by assumption) k1))).1 | exact (carry_pre true false hC (by omega) k1 (hz1.trans (Closes_l1 hC (by assumption) k1))).2 | exact (carry_pre false true hC (by omega) k2 (hz2.trans (Closes_l2 hC (by assumption) k2))).1 | exact (carry_pre false true hC (by omega) k2 (hz2.trans (Closes_l2 hC (by assumption) k2))).2))⟩⟩⟩,trivial⟩,trivial⟩⟩⟩) ?_
            change Tri _ _ _ _ _ _
            refine Tri.region' [(71,qi ((k1 + 1:Nat):Int))] none [63,10,9,1,2] [933,932,931,930,929,928,208,192] ((True∧((iAdd .i64 (k1:Int) 1)=((k1 + 1:Nat):Int)))∧(TT∧True))
              ([(63,.sc (.i .i64 ((k1 + 1:Nat):Int))),(10,.sc (.p 192 0)),(9,.sc (.p 208 0)),(1,.sc (.ro .u8 p1)),(2,.sc (.ro .u8 p2))],[(933,.vec .row ((FcClosesv11 z1).out)),(932,.ints .u8 ((FcClosesv11 z1).got.length) ((FcClosesv11 z1).got)),(931,.ints .u8 ((FcClosesv11 z1).wait.length) ((FcClosesv11 z1).wait)),(930,.vec .row ((FcClosesv10 z1).out)),(929,.ints .u8 ((FcClosesv10 z1).got.length) ((FcClosesv10 z1).got)),(928,.ints .u8 ((FcClosesv10 z1).wait.length) ((FcClosesv10 z1).wait)),(208,chC 931 932 933 (FcClosesv11 z1)),(192,chC 928 929 930 (FcClosesv10 z1))])
              976 (by kernel_rfl) rfl (by kernel_rfl) (⟨⟨trivial,(iAdd_nat (a:=k1) (b:=1) (by omega))⟩,⟨tt,trivial⟩⟩) ?_
            repeat (refine blkP_normal ?_)
            refine countP_normal (by omega) trivial ?_
            exact Sub.ren (ns:=[(933,690),(932,689),(931,688),(208,208),(930,274),(929,273),(928,272),(192,192)]) (kf:=[63,10,9,1,2]) (by kernel_rfl) (by kernel_rfl)
           ·
            have h10':=of_decide_eq_false h10
            refine Tri.exit ?_
            have hend1:k1=3:=by (have:=of_decide_eq_false h10; omega)
            subst hend1; subst hz1
            change Tri _ _ _ _ _ _
            refine Tri.seq ?_
            refine Tri.split (((FcState ((itr (FcClosesl1) 3 ((FcClose_1 (FcClosesv5 p1)),(itr (FcClosesl0) 4 ((FcBegin_1 (FcNew false)),(FcNew true))).1)).1)):Int) != 3) (fun h11 => ?_) (fun h11 => ?_)
            ·
             have h11':=ne_true_i h11
             refine Tri.seq_region [(75,qb true)] none [85,10,1,2] [274,273,272,192] (TT∧((((True∧((chLens (((itr (FcClosesl1) 3 ((FcClose_1 (FcClosesv5 p1)),(itr (FcClosesl0) 4 ((FcBegin_1 (FcNew false)),(FcNew true))).1)).1).wait.length) (((itr (FcClosesl1) 3 ((FcClose_1 (FcClosesv5 p1)),(itr (FcClosesl0) 4 ((FcBegin_1 (FcNew false)),(FcNew true))).1)).1).got.length) (((itr (FcClosesl1) 3 ((FcClose_1 (FcClosesv5 p1)),(itr (FcClosesl0) 4 ((FcBegin_1 (FcNew false)),(FcNew true))).1)).1).out.length) (((itr (FcClosesl1) 3 ((FcClose_1 (FcClosesv5 p1)),(itr (FcClosesl0) 4 ((FcBegin_1 (FcNew false)),(FcNew true))).1)).1).wait.length) (((itr (FcClosesl1) 3 ((FcClose_1 (FcClosesv5 p1)),(itr (FcClosesl0) 4 ((FcBegin_1 (FcNew false)),(FcNew true))).1)).1).got.length) ((itr (FcClosesl1) 3 ((FcClose_1 (FcClosesv5 p1)),(itr (FcClosesl0) 4 ((FcBegin_1 (FcNew false)),(FcNew true))).1)).1))∧True))∧(([some (chC 688 689 690 ((itr (FcClosesl1) 3 ((FcClose_1 (FcClosesv5 p1)),(itr (FcClosesl0) 4 ((FcBegin_1 (FcNew false)),(FcNew true))).1)).1)),some (.ints .u8 ((itr (FcClosesl1) 3 ((FcClose_1 (FcClosesv5 p1)),(itr (FcClosesl0) 4 ((FcBegin_1 (FcNew false)),(FcNew true))).1)).1.wait.length) ((itr (FcClosesl1) 3 ((FcClose_1 (FcClosesv5 p1)),(itr (FcClosesl0) 4 ((FcBegin_1 (FcNew false)),(FcNew true))).1)).1.wait)),some (.ints .u8 ((itr (FcClosesl1) 3 ((FcClose_1 (FcClosesv5 p1)),(itr (FcClosesl0) 4 ((FcBegin_1 (FcNew false)),(FcNew true))).1)).1.got.length) ((itr (FcClosesl1) 3 ((FcClose_1 (FcClosesv5 p1)),(itr (FcClosesl0) 4 ((FcBegin_1 (FcNew false)),(FcNew true))).1)).1.got)),some (.vec .row ((itr (FcClosesl1) 3 ((FcClose_1 (FcClosesv5 p1)),(itr (FcClosesl0) 4 ((FcBegin_1 (FcNew false)),(FcNew true))).1)).1.out))]:List (Option Blk))=[some (chC 688 689 690 ((itr (FcClosesl1) 3 ((FcClose_1 (FcClosesv5 p1)),(itr (FcClosesl0) 4 ((FcBegin_1 (FcNew false)),(FcNew true))).1)).1)),some (.ints .u8 ((itr (FcClosesl1) 3 ((FcClose_1 (FcClosesv5 p1)),(itr (FcClosesl0) 4 ((FcBegin_1 (FcNew false)),(FcNew true))).1)).1.wait.length) ((itr (FcClosesl1) 3 ((FcClose_1 (FcClosesv5 p1)),(itr (FcClosesl0) 4 ((FcBegin_1 (FcNew false)),(FcNew true))).1)).1.wait)),some (.ints .u8 ((itr (FcClosesl1) 3 ((FcClose_1 (FcClosesv5 p1)),(itr (FcClosesl0) 4 ((FcBegin_1 (FcNew false)),(FcNew true))).1)).1.got.length) ((itr (FcClosesl1) 3 ((FcClose_1 (FcClosesv5 p1)),(itr (FcClosesl0) 4 ((FcBegin_1 (FcNew false)),(FcNew true))).1)).1.got)),some (.vec .row ((itr (FcClosesl1) 3 ((FcClose_1 (FcClosesv5 p1)),(itr (FcClosesl0) 4 ((FcBegin_1 (FcNew false)),(FcNew true))).1)).1.out))]))∧True)∧(TT∧((True∧((((FcState ((itr (FcClosesl1) 3 ((FcClose_1 (FcClosesv5 p1)),(itr (FcClosesl0) 4 ((FcBegin_1 (FcNew false)),(FcNew true))).1)).1)):Int) != 3)=true))∧(TT∧(TT∧(TT∧(TT∧(TT∧(TT∧(TT∧(TT∧(TT∧(TT∧True))))))))))))))
               ([(85,.sc (.b true)),(10,.sc (.p 192 0)),(1,.sc (.ro .u8 p1)),(2,.sc (.ro .u8 p2))],[(274,.vec .row ((itr (FcClosesl1) 3 ((FcClose_1 (FcClosesv5 p1)),(itr (FcClosesl0) 4 ((FcBegin_1 (FcNew false)),(FcNew true))).1)).2.out)),(273,.ints .u8 ((itr (FcClosesl1) 3 ((FcClose_1 (FcClosesv5 p1)),(itr (FcClosesl0) 4 ((FcBegin_1 (FcNew false)),(FcNew true))).1)).2.got.length) ((itr (FcClosesl1) 3 ((FcClose_1 (FcClosesv5 p1)),(itr (FcClosesl0) 4 ((FcBegin_1 (FcNew false)),(FcNew true))).1)).2.got)),(272,.ints .u8 ((itr (FcClosesl1) 3 ((FcClose_1 (FcClosesv5 p1)),(itr (FcClosesl0) 4 ((FcBegin_1 (FcNew false)),(FcNew true))).1)).2.wait.length) ((itr (FcClosesl1) 3 ((FcClose_1 (FcClosesv5 p1)),(itr (FcClosesl0) 4 ((FcBegin_1 (FcNew false)),(FcNew true))).1)).2.wait)),(192,chC 272 273 274 ((itr (FcClosesl1) 3 ((FcClose_1 (FcClosesv5 p1)),(itr (FcClosesl0) 4 ((FcBegin_1 (FcNew false)),(FcNew true))).1)).2))])
               1072 (by kernel_rfl) rfl (by kernel_rfl) (⟨tt,⟨⟨⟨⟨trivial,⟨(chLens_self _),trivial⟩⟩,(rfl)⟩,trivial⟩,⟨tt,⟨⟨trivial,(h11)⟩,⟨tt,⟨tt,⟨tt,⟨tt,⟨tt,⟨tt,⟨tt,⟨tt,⟨tt,⟨tt,trivial⟩⟩⟩⟩⟩⟩⟩⟩⟩⟩⟩⟩⟩⟩) ?_
             refine Tri.cond_true (by kernel_rfl) ?_
             refine Tri.seq_region [] none [6] [] (TT∧True)
               ([(6,.sc (.b false))],[])
               1088 (by kernel_rfl) rfl (by kernel_rfl) (⟨tt,trivial⟩) ?_
             refine Tri.ret ?_
             repeat (first | refine thenP_ret ?_ | refine blkP_ret ?_ | refine countP_ret ?_ | refine joinP_ret ?_ | refine iterP_ret ?_)
             refine endP.conv (r':=⟨.sc (.b false),[]⟩) (by simp only [chC,FcCloses,h1,h2,h3,h5,h6,h7,h8,h9,h11,sel_true,sel_false]) ?_
             exact endP.ret [] TT (by kernel_rfl) (by kernel_rfl) tt
            ·
             have h11':=ne_false_i h11
             refine Tri.split (((FcState ((itr (FcClosesl1) 3 ((FcClose_1 (FcClosesv5 p1)),(itr (FcClosesl0) 4 ((FcBegin_1 (FcNew false)),(FcNew true))).1)).2)):Int) != 3) (fun h12 => ?_) (fun h12 => ?_)
             ·
              have h12':=ne_true_i h12
              refine Tri.seq_region [(75,qb false),(80,qb true)] none [85,10,1,2] [274,273,272,192] (TT∧((((True∧((chLens (((itr (FcClosesl1) 3 ((FcClose_1 (FcClosesv5 p1)),(itr (FcClosesl0) 4 ((FcBegin_1 (FcNew false)),(FcNew true))).1)).1).wait.length) (((itr (FcClosesl1) 3 ((FcClose_1 (FcClosesv5 p1)),(itr (FcClosesl0) 4 ((FcBegin_1 (FcNew false)),(FcNew true))).1)).1).got.length) (((itr (FcClosesl1) 3 ((FcClose_1 (FcClosesv5 p1)),(itr (FcClosesl0) 4 ((FcBegin_1 (FcNew false)),(FcNew true))).1)).1).out.length) (((itr (FcClosesl1) 3 ((FcClose_1 (FcClosesv5 p1)),(itr (FcClosesl0) 4 ((FcBegin_1 (FcNew false)),(FcNew true))).1)).1).wait.length) (((itr (FcClosesl1) 3 ((FcClose_1 (FcClosesv5 p1)),(itr (FcClosesl0) 4 ((FcBegin_1 (FcNew false)),(FcNew true))).1)).1).got.length) ((itr (FcClosesl1) 3 ((FcClose_1 (FcClosesv5 p1)),(itr (FcClosesl0) 4 ((FcBegin_1 (FcNew false)),(FcNew true))).1)).1))∧True))∧(([some (chC 688 689 690 ((itr (FcClosesl1) 3 ((FcClose_1 (FcClosesv5 p1)),(itr (FcClosesl0) 4 ((FcBegin_1 (FcNew false)),(FcNew true))).1)).1)),some (.ints .u8 ((itr (FcClosesl1) 3 ((FcClose_1 (FcClosesv5 p1)),(itr (FcClosesl0) 4 ((FcBegin_1 (FcNew false)),(FcNew true))).1)).1.wait.length) ((itr (FcClosesl1) 3 ((FcClose_1 (FcClosesv5 p1)),(itr (FcClosesl0) 4 ((FcBegin_1 (FcNew false)),(FcNew true))).1)).1.wait)),some (.ints .u8 ((itr (FcClosesl1) 3 ((FcClose_1 (FcClosesv5 p1)),(itr (FcClosesl0) 4 ((FcBegin_1 (FcNew false)),(FcNew true))).1)).1.got.length) ((itr (FcClosesl1) 3 ((FcClose_1 (FcClosesv5 p1)),(itr (FcClosesl0) 4 ((FcBegin_1 (FcNew false)),(FcNew true))).1)).1.got)),some (.vec .row ((itr (FcClosesl1) 3 ((FcClose_1 (FcClosesv5 p1)),(itr (FcClosesl0) 4 ((FcBegin_1 (FcNew false)),(FcNew true))).1)).1.out))]:List (Option Blk))=[some (chC 688 689 690 ((itr (FcClosesl1) 3 ((FcClose_1 (FcClosesv5 p1)),(itr (FcClosesl0) 4 ((FcBegin_1 (FcNew false)),(FcNew true))).1)).1)),some (.ints .u8 ((itr (FcClosesl1) 3 ((FcClose_1 (FcClosesv5 p1)),(itr (FcClosesl0) 4 ((FcBegin_1 (FcNew false)),(FcNew true))).1)).1.wait.length) ((itr (FcClosesl1) 3 ((FcClose_1 (FcClosesv5 p1)),(itr (FcClosesl0) 4 ((FcBegin_1 (FcNew false)),(FcNew true))).1)).1.wait)),some (.ints .u8 ((itr (FcClosesl1) 3 ((FcClose_1 (FcClosesv5 p1)),(itr (FcClosesl0) 4 ((FcBegin_1 (FcNew false)),(FcNew true))).1)).1.got.length) ((itr (FcClosesl1) 3 ((FcClose_1 (FcClosesv5 p1)),(itr (FcClosesl0) 4 ((FcBegin_1 (FcNew false)),(FcNew true))).1)).1.got)),some (.vec .row ((itr (FcClosesl1) 3 ((FcClose_1 (FcClosesv5 p1)),(itr (FcClosesl0) 4 ((FcBegin_1 (FcNew false)),(FcNew true))).1)).1.out))]))∧True)∧(TT∧((True∧((((FcState ((itr (FcClosesl1) 3 ((FcClose_1 (FcClosesv5 p1)),(itr (FcClosesl0) 4 ((FcBegin_1 (FcNew false)),(FcNew true))).1)).1)):Int) != 3)=false))∧(TT∧((((True∧((chLens (((itr (FcClosesl1) 3 ((FcClose_1 (FcClosesv5 p1)),(itr (FcClosesl0) 4 ((FcBegin_1 (FcNew false)),(FcNew true))).1)).2).wait.length) (((itr (FcClosesl1) 3 ((FcClose_1 (FcClosesv5 p1)),(itr (FcClosesl0) 4 ((FcBegin_1 (FcNew false)),(FcNew true))).1)).2).got.length) (((itr (FcClosesl1) 3 ((FcClose_1 (FcClosesv5 p1)),(itr (FcClosesl0) 4 ((FcBegin_1 (FcNew false)),(FcNew true))).1)).2).out.length) (((itr (FcClosesl1) 3 ((FcClose_1 (FcClosesv5 p1)),(itr (FcClosesl0) 4 ((FcBegin_1 (FcNew false)),(FcNew true))).1)).2).wait.length) (((itr (FcClosesl1) 3 ((FcClose_1 (FcClosesv5 p1)),(itr (FcClosesl0) 4 ((FcBegin_1 (FcNew false)),(FcNew true))).1)).2).got.length) ((itr (FcClosesl1) 3 ((FcClose_1 (FcClosesv5 p1)),(itr (FcClosesl0) 4 ((FcBegin_1 (FcNew false)),(FcNew true))).1)).2))∧True))∧(([some (chC 272 273 274 ((itr (FcClosesl1) 3 ((FcClose_1 (FcClosesv5 p1)),(itr (FcClosesl0) 4 ((FcBegin_1 (FcNew false)),(FcNew true))).1)).2)),some (.ints .u8 ((itr (FcClosesl1) 3 ((FcClose_1 (FcClosesv5 p1)),(itr (FcClosesl0) 4 ((FcBegin_1 (FcNew false)),(FcNew true))).1)).2.wait.length) ((itr (FcClosesl1) 3 ((FcClose_1 (FcClosesv5 p1)),(itr (FcClosesl0) 4 ((FcBegin_1 (FcNew false)),(FcNew true))).1)).2.wait)),some (.ints .u8 ((itr (FcClosesl1) 3 ((FcClose_1 (FcClosesv5 p1)),(itr (FcClosesl0) 4 ((FcBegin_1 (FcNew false)),(FcNew true))).1)).2.got.length) ((itr (FcClosesl1) 3 ((FcClose_1 (FcClosesv5 p1)),(itr (FcClosesl0) 4 ((FcBegin_1 (FcNew false)),(FcNew true))).1)).2.got)),some (.vec .row ((itr (FcClosesl1) 3 ((FcClose_1 (FcClosesv5 p1)),(itr (FcClosesl0) 4 ((FcBegin_1 (FcNew false)),(FcNew true))).1)).2.out))]:List (Option Blk))=[some (chC 272 273 274 ((itr (FcClosesl1) 3 ((FcClose_1 (FcClosesv5 p1)),(itr (FcClosesl0) 4 ((FcBegin_1 (FcNew false)),(FcNew true))).1)).2)),some (.ints .u8 ((itr (FcClosesl1) 3 ((FcClose_1 (FcClosesv5 p1)),(itr (FcClosesl0) 4 ((FcBegin_1 (FcNew false)),(FcNew true))).1)).2.wait.length) ((itr (FcClosesl1) 3 ((FcClose_1 (FcClosesv5 p1)),(itr (FcClosesl0) 4 ((FcBegin_1 (FcNew false)),(FcNew true))).1)).2.wait)),some (.ints .u8 ((itr (FcClosesl1) 3 ((FcClose_1 (FcClosesv5 p1)),(itr (FcClosesl0) 4 ((FcBegin_1 (FcNew false)),(FcNew true))).1)).2.got.length) ((itr (FcClosesl1) 3 ((FcClose_1 (FcClosesv5 p1)),(itr (FcClosesl0) 4 ((FcBegin_1 (FcNew false)),(FcNew true))).1)).2.got)),some (.vec .row ((itr (FcClosesl1) 3 ((FcClose_1 (FcClosesv5 p1)),(itr (FcClosesl0) 4 ((FcBegin_1 (FcNew false)),(FcNew true))).1)).2.out))]))∧True)∧(TT∧(TT∧((True∧((((FcState ((itr (FcClosesl1) 3 ((FcClose_1 (FcClosesv5 p1)),(itr (FcClosesl0) 4 ((FcBegin_1 (FcNew false)),(FcNew true))).1)).2)):Int) != 3)=true))∧(TT∧(TT∧(TT∧(TT∧(TT∧True))))))))))))))
                ([(85,.sc (.b true)),(10,.sc (.p 192 0)),(1,.sc (.ro .u8 p1)),(2,.sc (.ro .u8 p2))],[(274,.vec .row ((itr (FcClosesl1) 3 ((FcClose_1 (FcClosesv5 p1)),(itr (FcClosesl0) 4 ((FcBegin_1 (FcNew false)),(FcNew true))).1)).2.out)),(273,.ints .u8 ((itr (FcClosesl1) 3 ((FcClose_1 (FcClosesv5 p1)),(itr (FcClosesl0) 4 ((FcBegin_1 (FcNew false)),(FcNew true))).1)).2.got.length) ((itr (FcClosesl1) 3 ((FcClose_1 (FcClosesv5 p1)),(itr (FcClosesl0) 4 ((FcBegin_1 (FcNew false)),(FcNew true))).1)).2.got)),(272,.ints .u8 ((itr (FcClosesl1) 3 ((FcClose_1 (FcClosesv5 p1)),(itr (FcClosesl0) 4 ((FcBegin_1 (FcNew false)),(FcNew true))).1)).2.wait.length) ((itr (FcClosesl1) 3 ((FcClose_1 (FcClosesv5 p1)),(itr (FcClosesl0) 4 ((FcBegin_1 (FcNew false)),(FcNew true))).1)).2.wait)),(192,chC 272 273 274 ((itr (FcClosesl1) 3 ((FcClose_1 (FcClosesv5 p1)),(itr (FcClosesl0) 4 ((FcBegin_1 (FcNew false)),(FcNew true))).1)).2))])
                1072 (by kernel_rfl) rfl (by kernel_rfl) (⟨tt,⟨⟨⟨⟨trivial,⟨(chLens_self _),trivial⟩⟩,(rfl)⟩,trivial⟩,⟨tt,⟨⟨trivial,(h11)⟩,⟨tt,⟨⟨⟨⟨trivial,⟨(chLens_self _),trivial⟩⟩,(rfl)⟩,trivial⟩,⟨tt,⟨tt,⟨⟨trivial,(h12)⟩,⟨tt,⟨tt,⟨tt,⟨tt,⟨tt,trivial⟩⟩⟩⟩⟩⟩⟩⟩⟩⟩⟩⟩⟩⟩) ?_
              refine Tri.cond_true (by kernel_rfl) ?_
              refine Tri.seq_region [] none [6] [] (TT∧True)
                ([(6,.sc (.b false))],[])
                1088 (by kernel_rfl) rfl (by kernel_rfl) (⟨tt,trivial⟩) ?_
              refine Tri.ret ?_
              repeat (first | refine thenP_ret ?_ | refine blkP_ret ?_ | refine countP_ret ?_ | refine joinP_ret ?_ | refine iterP_ret ?_)
              refine endP.conv (r':=⟨.sc (.b false),[]⟩) (by simp only [chC,FcCloses,h1,h2,h3,h5,h6,h7,h8,h9,h11,h12,sel_true,sel_false]) ?_
              exact endP.ret [] TT (by kernel_rfl) (by kernel_rfl) tt
             ·
              have h12':=ne_false_i h12
              refine Tri.seq_region [(75,qb false),(80,qb false)] none [85,10,1,2] [1026,1025,1024,192] (TT∧((((True∧((chLens (((itr (FcClosesl1) 3 ((FcClose_1 (FcClosesv5 p1)),(itr (FcClosesl0) 4 ((FcBegin_1 (FcNew false)),(FcNew true))).1)).1).wait.length) (((itr (FcClosesl1) 3 ((FcClose_1 (FcClosesv5 p1)),(itr (FcClosesl0) 4 ((FcBegin_1 (FcNew false)),(FcNew true))).1)).1).got.length) (((itr (FcClosesl1) 3 ((FcClose_1 (FcClosesv5 p1)),(itr (FcClosesl0) 4 ((FcBegin_1 (FcNew false)),(FcNew true))).1)).1).out.length) (((itr (FcClosesl1) 3 ((FcClose_1 (FcClosesv5 p1)),(itr (FcClosesl0) 4 ((FcBegin_1 (FcNew false)),(FcNew true))).1)).1).wait.length) (((itr (FcClosesl1) 3 ((FcClose_1 (FcClosesv5 p1)),(itr (FcClosesl0) 4 ((FcBegin_1 (FcNew false)),(FcNew true))).1)).1).got.length) ((itr (FcClosesl1) 3 ((FcClose_1 (FcClosesv5 p1)),(itr (FcClosesl0) 4 ((FcBegin_1 (FcNew false)),(FcNew true))).1)).1))∧True))∧(([some (chC 688 689 690 ((itr (FcClosesl1) 3 ((FcClose_1 (FcClosesv5 p1)),(itr (FcClosesl0) 4 ((FcBegin_1 (FcNew false)),(FcNew true))).1)).1)),some (.ints .u8 ((itr (FcClosesl1) 3 ((FcClose_1 (FcClosesv5 p1)),(itr (FcClosesl0) 4 ((FcBegin_1 (FcNew false)),(FcNew true))).1)).1.wait.length) ((itr (FcClosesl1) 3 ((FcClose_1 (FcClosesv5 p1)),(itr (FcClosesl0) 4 ((FcBegin_1 (FcNew false)),(FcNew true))).1)).1.wait)),some (.ints .u8 ((itr (FcClosesl1) 3 ((FcClose_1 (FcClosesv5 p1)),(itr (FcClosesl0) 4 ((FcBegin_1 (FcNew false)),(FcNew true))).1)).1.got.length) ((itr (FcClosesl1) 3 ((FcClose_1 (FcClosesv5 p1)),(itr (FcClosesl0) 4 ((FcBegin_1 (FcNew false)),(FcNew true))).1)).1.got)),some (.vec .row ((itr (FcClosesl1) 3 ((FcClose_1 (FcClosesv5 p1)),(itr (FcClosesl0) 4 ((FcBegin_1 (FcNew false)),(FcNew true))).1)).1.out))]:List (Option Blk))=[some (chC 688 689 690 ((itr (FcClosesl1) 3 ((FcClose_1 (FcClosesv5 p1)),(itr (FcClosesl0) 4 ((FcBegin_1 (FcNew false)),(FcNew true))).1)).1)),some (.ints .u8 ((itr (FcClosesl1) 3 ((FcClose_1 (FcClosesv5 p1)),(itr (FcClosesl0) 4 ((FcBegin_1 (FcNew false)),(FcNew true))).1)).1.wait.length) ((itr (FcClosesl1) 3 ((FcClose_1 (FcClosesv5 p1)),(itr (FcClosesl0) 4 ((FcBegin_1 (FcNew false)),(FcNew true))).1)).1.wait)),some (.ints .u8 ((itr (FcClosesl1) 3 ((FcClose_1 (FcClosesv5 p1)),(itr (FcClosesl0) 4 ((FcBegin_1 (FcNew false)),(FcNew true))).1)).1.got.length) ((itr (FcClosesl1) 3 ((FcClose_1 (FcClosesv5 p1)),(itr (FcClosesl0) 4 ((FcBegin_1 (FcNew false)),(FcNew true))).1)).1.got)),some (.vec .row ((itr (FcClosesl1) 3 ((FcClose_1 (FcClosesv5 p1)),(itr (FcClosesl0) 4 ((FcBegin_1 (FcNew false)),(FcNew true))).1)).1.out))]))∧True)∧(TT∧((True∧((((FcState ((itr (FcClosesl1) 3 ((FcClose_1 (FcClosesv5 p1)),(itr (FcClosesl0) 4 ((FcBegin_1 (FcNew false)),(FcNew true))).1)).1)):Int) != 3)=false))∧(TT∧((((True∧((chLens (((itr (FcClosesl1) 3 ((FcClose_1 (FcClosesv5 p1)),(itr (FcClosesl0) 4 ((FcBegin_1 (FcNew false)),(FcNew true))).1)).2).wait.length) (((itr (FcClosesl1) 3 ((FcClose_1 (FcClosesv5 p1)),(itr (FcClosesl0) 4 ((FcBegin_1 (FcNew false)),(FcNew true))).1)).2).got.length) (((itr (FcClosesl1) 3 ((FcClose_1 (FcClosesv5 p1)),(itr (FcClosesl0) 4 ((FcBegin_1 (FcNew false)),(FcNew true))).1)).2).out.length) (((itr (FcClosesl1) 3 ((FcClose_1 (FcClosesv5 p1)),(itr (FcClosesl0) 4 ((FcBegin_1 (FcNew false)),(FcNew true))).1)).2).wait.length) (((itr (FcClosesl1) 3 ((FcClose_1 (FcClosesv5 p1)),(itr (FcClosesl0) 4 ((FcBegin_1 (FcNew false)),(FcNew true))).1)).2).got.length) ((itr (FcClosesl1) 3 ((FcClose_1 (FcClosesv5 p1)),(itr (FcClosesl0) 4 ((FcBegin_1 (FcNew false)),(FcNew true))).1)).2))∧True))∧(([some (chC 272 273 274 ((itr (FcClosesl1) 3 ((FcClose_1 (FcClosesv5 p1)),(itr (FcClosesl0) 4 ((FcBegin_1 (FcNew false)),(FcNew true))).1)).2)),some (.ints .u8 ((itr (FcClosesl1) 3 ((FcClose_1 (FcClosesv5 p1)),(itr (FcClosesl0) 4 ((FcBegin_1 (FcNew false)),(FcNew true))).1)).2.wait.length) ((itr (FcClosesl1) 3 ((FcClose_1 (FcClosesv5 p1)),(itr (FcClosesl0) 4 ((FcBegin_1 (FcNew false)),(FcNew true))).1)).2.wait)),some (.ints .u8 ((itr (FcClosesl1) 3 ((FcClose_1 (FcClosesv5 p1)),(itr (FcClosesl0) 4 ((FcBegin_1 (FcNew false)),(FcNew true))).1)).2.got.length) ((itr (FcClosesl1) 3 ((FcClose_1 (FcClosesv5 p1)),(itr (FcClosesl0) 4 ((FcBegin_1 (FcNew false)),(FcNew true))).1)).2.got)),some (.vec .row ((itr (FcClosesl1) 3 ((FcClose_1 (FcClosesv5 p1)),(itr (FcClosesl0) 4 ((FcBegin_1 (FcNew false)),(FcNew true))).1)).2.out))]:List (Option Blk))=[some (chC 272 273 274 ((itr (FcClosesl1) 3 ((FcClose_1 (FcClosesv5 p1)),(itr (FcClosesl0) 4 ((FcBegin_1 (FcNew false)),(FcNew true))).1)).2)),some (.ints .u8 ((itr (FcClosesl1) 3 ((FcClose_1 (FcClosesv5 p1)),(itr (FcClosesl0) 4 ((FcBegin_1 (FcNew false)),(FcNew true))).1)).2.wait.length) ((itr (FcClosesl1) 3 ((FcClose_1 (FcClosesv5 p1)),(itr (FcClosesl0) 4 ((FcBegin_1 (FcNew false)),(FcNew true))).1)).2.wait)),some (.ints .u8 ((itr (FcClosesl1) 3 ((FcClose_1 (FcClosesv5 p1)),(itr (FcClosesl0) 4 ((FcBegin_1 (FcNew false)),(FcNew true))).1)).2.got.length) ((itr (FcClosesl1) 3 ((FcClose_1 (FcClosesv5 p1)),(itr (FcClosesl0) 4 ((FcBegin_1 (FcNew false)),(FcNew true))).1)).2.got)),some (.vec .row ((itr (FcClosesl1) 3 ((FcClose_1 (FcClosesv5 p1)),(itr (FcClosesl0) 4 ((FcBegin_1 (FcNew false)),(FcNew true))).1)).2.out))]))∧True)∧(TT∧(TT∧((True∧((((FcState ((itr (FcClosesl1) 3 ((FcClose_1 (FcClosesv5 p1)),(itr (FcClosesl0) 4 ((FcBegin_1 (FcNew false)),(FcNew true))).1)).2)):Int) != 3)=false))∧(TT∧(TT∧(((TT∧((chLens (((itr (FcClosesl1) 3 ((FcClose_1 (FcClosesv5 p1)),(itr (FcClosesl0) 4 ((FcBegin_1 (FcNew false)),(FcNew true))).1)).2).wait.length) (((itr (FcClosesl1) 3 ((FcClose_1 (FcClosesv5 p1)),(itr (FcClosesl0) 4 ((FcBegin_1 (FcNew false)),(FcNew true))).1)).2).got.length) (((itr (FcClosesl1) 3 ((FcClose_1 (FcClosesv5 p1)),(itr (FcClosesl0) 4 ((FcBegin_1 (FcNew false)),(FcNew true))).1)).2).out.length) (((itr (FcClosesl1) 3 ((FcClose_1 (FcClosesv5 p1)),(itr (FcClosesl0) 4 ((FcBegin_1 (FcNew false)),(FcNew true))).1)).2).wait.length) (((itr (FcClosesl1) 3 ((FcClose_1 (FcClosesv5 p1)),(itr (FcClosesl0) 4 ((FcBegin_1 (FcNew false)),(FcNew true))).1)).2).got.length) ((itr (FcClosesl1) 3 ((FcClose_1 (FcClosesv5 p1)),(itr (FcClosesl0) 4 ((FcBegin_1 (FcNew false)),(FcNew true))).1)).2))∧(chFlow ((itr (FcClosesl1) 3 ((FcClose_1 (FcClosesv5 p1)),(itr (FcClosesl0) 4 ((FcBegin_1 (FcNew false)),(FcNew true))).1)).2)∧((itr (FcClosesl1) 3 ((FcClose_1 (FcClosesv5 p1)),(itr (FcClosesl0) 4 ((FcBegin_1 (FcNew false)),(FcNew true))).1)).2).out.length + ((itr (FcClosesl1) 3 ((FcClose_1 (FcClosesv5 p1)),(itr (FcClosesl0) 4 ((FcBegin_1 (FcNew false)),(FcNew true))).1)).2).wait.length + p1.length≤1000000000)))∧True)∧(TT∧(TT∧True))))))))))))))
                ([(85,.sc (.b (((FcSend ((itr (FcClosesl1) 3 ((FcClose_1 (FcClosesv5 p1)),(itr (FcClosesl0) 4 ((FcBegin_1 (FcNew false)),(FcNew true))).1)).2) p1):Int) != 8))),(10,.sc (.p 192 0)),(1,.sc (.ro .u8 p1)),(2,.sc (.ro .u8 p2))],[(1026,.vec .row ((FcClosesv12 p1).out)),(1025,.ints .u8 ((FcClosesv12 p1).got.length) ((FcClosesv12 p1).got)),(1024,.ints .u8 ((FcClosesv12 p1).wait.length) ((FcClosesv12 p1).wait)),(192,chC 1024 1025 1026 (FcClosesv12 p1))])
                1072 (by kernel_rfl) rfl (by kernel_rfl) (⟨tt,⟨⟨⟨⟨trivial,⟨(chLens_self _),trivial⟩⟩,(rfl)⟩,trivial⟩,⟨tt,⟨⟨trivial,(h11)⟩,⟨tt,⟨⟨⟨⟨trivial,⟨(chLens_self _),trivial⟩⟩,(rfl)⟩,trivial⟩,⟨tt,⟨tt,⟨⟨trivial,(h12)⟩,⟨tt,⟨tt,⟨⟨⟨tt,⟨(chLens_self _),((by first | (rw [Closes_l1 hC (by assumption)]; exact (send_pre (!true) (by omega)).2.2) | (rw [(Closes_v4 hC (by assumption)).1,(close_is true _).2]; exact (send_pre true (by omega)).2.1) | (rw [Closes_loop]; exact (send_pre true (by omega)).1) | (rw [Closes_l2 hC (by assumption)]; exact (send_pre (!false) (by omega)).2.2) | (rw [(Closes_v14 hC (by assumption)).1,(close_is false _).2]; exact (send_pre false (by omega)).2.1) | (rw [Closes_loop]; exact (send_pre false (by omega)).1)))⟩⟩,trivial⟩,⟨tt,⟨tt,trivial⟩⟩⟩⟩⟩⟩⟩⟩⟩⟩⟩⟩⟩⟩) ?_
              refine Tri.cond (x:=(((FcSend ((itr (FcClosesl1) 3 ((FcClose_1 (FcClosesv5 p1)),(itr (FcClosesl0) 4 ((FcBegin_1 (FcNew false)),(FcNew true))).1)).2) p1):Int) != 8)) (by kernel_rfl) (fun h13 => ?_) (fun h13 => ?_)
              ·
               have h13':=ne_true_i h13
               refine Tri.seq_region [] none [6] [] (TT∧True)
                 ([(6,.sc (.b false))],[])
                 1088 (by kernel_rfl) rfl (by kernel_rfl) (⟨tt,trivial⟩) ?_
               refine Tri.ret ?_
               repeat (first | refine thenP_ret ?_ | refine blkP_ret ?_ | refine countP_ret ?_ | refine joinP_ret ?_ | refine iterP_ret ?_)
               refine endP.conv (r':=⟨.sc (.b false),[]⟩) (by simp only [chC,FcCloses,h1,h2,h3,h5,h6,h7,h8,h9,h11,h12,h13,sel_true,sel_false]) ?_
               exact endP.ret [] TT (by kernel_rfl) (by kernel_rfl) tt
              ·
               have h13':=ne_false_i h13
               refine Tri.skip ?_
               change Tri _ _ _ _ _ _
               refine Tri.seq_region [] none [11,10,1,2] [1091,1090,1089,1088,192] (TT∧(((True∧((chLens ((FcClosesv12 p1).wait.length) ((FcClosesv12 p1).got.length) ((FcClosesv12 p1).out.length) ((FcClosesv12 p1).wait.length) ((FcClosesv12 p1).got.length) (FcClosesv12 p1))∧((FcClosesv12 p1).out.length≤900000000)))∧True)∧(TT∧True)))
                 ([(11,.sc (.sl 1091 0 ((FcClosesv12 p1).got.length) 1 none)),(10,.sc (.p 192 0)),(1,.sc (.ro .u8 p1)),(2,.sc (.ro .u8 p2))],[(1091,.ints .u8 ((FcClosesv12 p1).got.length) (FcRecv_1 (FcClosesv12 p1))),(1090,.vec .row ((FcRecv (FcClosesv12 p1)).out)),(1089,.ints .u8 ((FcRecv (FcClosesv12 p1)).got.length) ((FcRecv (FcClosesv12 p1)).got)),(1088,.ints .u8 ((FcRecv (FcClosesv12 p1)).wait.length) ((FcRecv (FcClosesv12 p1)).wait)),(192,chC 1088 1089 1090 (FcRecv (FcClosesv12 p1)))])
                 1120 (by kernel_rfl) rfl (by kernel_rfl) (⟨tt,⟨⟨⟨trivial,⟨(chLens_self _),((by first | (rw [Closes_v12 hC (by assumption)]; exact (close_pre (!true) (by omega)).2.2) | (rw [Closes_v22 hC (by assumption)]; exact (close_pre (!false) (by omega)).2.2)))⟩⟩,trivial⟩,⟨tt,trivial⟩⟩⟩) ?_
               refine Tri.seq ?_
               refine Tri.split (!(strEq (bytesOf (((FcRecv_1 (FcClosesv12 p1)).drop 0).take ((FcClosesv12 p1).got.length))) (bytesOf ((p1.drop 0).take ((min p1.length 4096) - 0))))) (fun h14 => ?_) (fun h14 => ?_)
               ·
                refine Tri.seq_region [(93,qi ((min p1.length 4096:Nat):Int)),(97,qb true)] (some [0,1,0,0,8,24,60,124,255,511,1023,2047,4095,8191,16383]) [102,10,2] [1090,1089,1088,192] (TT∧(((0 + ((FcClosesv12 p1).got.length)≤(FcClosesv12 p1).got.length)∧True)∧(TT∧(TT∧(TT∧((True∧((minI (p1.length:Int) 4096)=((min p1.length 4096:Nat):Int)))∧((((0:Int)≤0∧(0:Int)≤((min p1.length 4096:Nat):Int)∧((min p1.length 4096:Nat):Int)≤(p1.length:Int))∧True)∧(TT∧(TT∧((True∧((!(strEq (bytesOf (((FcRecv_1 (FcClosesv12 p1)).drop 0).take ((FcClosesv12 p1).got.length))) (bytesOf ((p1.drop 0).take ((min p1.length 4096) - 0)))))=true))∧(TT∧(TT∧(TT∧(TT∧(TT∧True)))))))))))))))
                  ([(102,.sc (.b true)),(10,.sc (.p 192 0)),(2,.sc (.ro .u8 p2))],[(1090,.vec .row ((FcRecv (FcClosesv12 p1)).out)),(1089,.ints .u8 ((FcRecv (FcClosesv12 p1)).got.length) ((FcRecv (FcClosesv12 p1)).got)),(1088,.ints .u8 ((FcRecv (FcClosesv12 p1)).wait.length) ((FcRecv (FcClosesv12 p1)).wait)),(192,chC 1088 1089 1090 (FcRecv (FcClosesv12 p1)))])
                  1360 (by kernel_rfl) rfl (by kernel_rfl) (⟨tt,⟨⟨(by first | omega | (dsimp only; omega) | decide | (simp only [FcClosesv2,FcClosesv3,FcClosesv4,FcClosesv5,FcClosesv10,FcClosesv11,FcClosesv12,FcClosesv13,FcClosesv14,FcClosesv15,FcClosesv20,FcClosesv21,FcClosesv22,FcClosesv23,len_say]; omega)),trivial⟩,⟨tt,⟨tt,⟨tt,⟨⟨trivial,(minI_nat p1.length 4096)⟩,⟨⟨(by first | omega | (dsimp only; omega) | decide | (simp only [FcClosesv2,FcClosesv3,FcClosesv4,FcClosesv5,FcClosesv10,FcClosesv11,FcClosesv12,FcClosesv13,FcClosesv14,FcClosesv15,FcClosesv20,FcClosesv21,FcClosesv22,FcClosesv23,len_say]; omega)),trivial⟩,⟨tt,⟨tt,⟨⟨trivial,(h14)⟩,⟨tt,⟨tt,⟨tt,⟨tt,⟨tt,trivial⟩⟩⟩⟩⟩⟩⟩⟩⟩⟩⟩⟩⟩⟩⟩) ?_
                refine Tri.cond_true (by kernel_rfl) ?_
                refine Tri.seq_region [] none [6] [] (TT∧True)
                  ([(6,.sc (.b false))],[])
                  1376 (by kernel_rfl) rfl (by kernel_rfl) (⟨tt,trivial⟩) ?_
                refine Tri.ret ?_
                repeat (first | refine thenP_ret ?_ | refine blkP_ret ?_ | refine countP_ret ?_ | refine joinP_ret ?_ | refine iterP_ret ?_)
                refine endP.conv (r':=⟨.sc (.b false),[]⟩) (by simp only [chC,FcCloses,h1,h2,h3,h5,h6,h7,h8,h9,h11,h12,h13,h14,sel_true,sel_false]) ?_
                exact endP.ret [] TT (by kernel_rfl) (by kernel_rfl) tt
               ·
                refine Tri.seq_region [(93,qi ((min p1.length 4096:Nat):Int)),(97,qb false)] (some [0,1,0,0,8,24,60,124,255,511,1023,2047,4095,8191,16383]) [102,10,2] [1298,1297,1296,192] (TT∧(((0 + ((FcClosesv12 p1).got.length)≤(FcClosesv12 p1).got.length)∧True)∧(TT∧(TT∧(TT∧((True∧((minI (p1.length:Int) 4096)=((min p1.length 4096:Nat):Int)))∧((((0:Int)≤0∧(0:Int)≤((min p1.length 4096:Nat):Int)∧((min p1.length 4096:Nat):Int)≤(p1.length:Int))∧True)∧(TT∧(TT∧((True∧((!(strEq (bytesOf (((FcRecv_1 (FcClosesv12 p1)).drop 0).take ((FcClosesv12 p1).got.length))) (bytesOf ((p1.drop 0).take ((min p1.length 4096) - 0)))))=false))∧(TT∧(((True∧((chLens ((FcRecv (FcClosesv12 p1)).wait.length) ((FcRecv (FcClosesv12 p1)).got.length) ((FcRecv (FcClosesv12 p1)).out.length) ((FcRecv (FcClosesv12 p1)).wait.length) ((FcRecv (FcClosesv12 p1)).got.length) (FcRecv (FcClosesv12 p1)))∧True))∧True)∧(TT∧(TT∧(TT∧True)))))))))))))))
                  ([(102,.sc (.b (decide (((((FcRecv (FcClosesv12 p1)).out.length:Nat):Int):Int) > 0)))),(10,.sc (.p 192 0)),(2,.sc (.ro .u8 p2))],[(1298,.vec .row ((FcOut (FcRecv (FcClosesv12 p1))).out)),(1297,.ints .u8 ((FcOut (FcRecv (FcClosesv12 p1))).got.length) ((FcOut (FcRecv (FcClosesv12 p1))).got)),(1296,.ints .u8 ((FcOut (FcRecv (FcClosesv12 p1))).wait.length) ((FcOut (FcRecv (FcClosesv12 p1))).wait)),(192,chC 1296 1297 1298 (FcOut (FcRecv (FcClosesv12 p1))))])
                  1360 (by kernel_rfl) rfl (by kernel_rfl) (⟨tt,⟨⟨(by first | omega | (dsimp only; omega) | decide | (simp only [FcClosesv2,FcClosesv3,FcClosesv4,FcClosesv5,FcClosesv10,FcClosesv11,FcClosesv12,FcClosesv13,FcClosesv14,FcClosesv15,FcClosesv20,FcClosesv21,FcClosesv22,FcClosesv23,len_say]; omega)),trivial⟩,⟨tt,⟨tt,⟨tt,⟨⟨trivial,(minI_nat p1.length 4096)⟩,⟨⟨(by first | omega | (dsimp only; omega) | decide | (simp only [FcClosesv2,FcClosesv3,FcClosesv4,FcClosesv5,FcClosesv10,FcClosesv11,FcClosesv12,FcClosesv13,FcClosesv14,FcClosesv15,FcClosesv20,FcClosesv21,FcClosesv22,FcClosesv23,len_say]; omega)),trivial⟩,⟨tt,⟨tt,⟨⟨trivial,(h14)⟩,⟨tt,⟨⟨⟨trivial,⟨(chLens_self _),trivial⟩⟩,trivial⟩,⟨tt,⟨tt,⟨tt,trivial⟩⟩⟩⟩⟩⟩⟩⟩⟩⟩⟩⟩⟩⟩⟩) ?_
                refine Tri.cond (x:=(decide (((((FcRecv (FcClosesv12 p1)).out.length:Nat):Int):Int) > 0))) (by kernel_rfl) (fun h15 => ?_) (fun h15 => ?_)
                ·
                 have h15':=of_decide_eq_true h15
                 refine Tri.seq_region [] none [6] [] (TT∧True)
                   ([(6,.sc (.b false))],[])
                   1376 (by kernel_rfl) rfl (by kernel_rfl) (⟨tt,trivial⟩) ?_
                 refine Tri.ret ?_
                 repeat (first | refine thenP_ret ?_ | refine blkP_ret ?_ | refine countP_ret ?_ | refine joinP_ret ?_ | refine iterP_ret ?_)
                 refine endP.conv (r':=⟨.sc (.b false),[]⟩) (by simp only [chC,FcCloses,h1,h2,h3,h5,h6,h7,h8,h9,h11,h12,h13,h14,h15,sel_true,sel_false]) ?_
                 exact endP.ret [] TT (by kernel_rfl) (by kernel_rfl) tt
                ·
                 have h15':=of_decide_eq_false h15
                 refine Tri.skip ?_
                 change Tri _ _ _ _ _ _
                 refine Tri.seq_region [] none [12,10,2] [1394,1393,1392,192] (TT∧(TT∧(((TT∧((chLens ((FcOut (FcRecv (FcClosesv12 p1))).wait.length) ((FcOut (FcRecv (FcClosesv12 p1))).got.length) ((FcOut (FcRecv (FcClosesv12 p1))).out.length) ((FcOut (FcRecv (FcClosesv12 p1))).wait.length) ((FcOut (FcRecv (FcClosesv12 p1))).got.length) (FcOut (FcRecv (FcClosesv12 p1))))∧(chOk 900000000 (FcOut (FcRecv (FcClosesv12 p1))))))∧True)∧(TT∧True))))
                   ([(12,.sc (.i .i64 (FcTake (FcOut (FcRecv (FcClosesv12 p1))) p2))),(10,.sc (.p 192 0)),(2,.sc (.ro .u8 p2))],[(1394,.vec .row ((FcClosesv13 p1 p2).out)),(1393,.ints .u8 ((FcClosesv13 p1 p2).got.length) ((FcClosesv13 p1 p2).got)),(1392,.ints .u8 ((FcClosesv13 p1 p2).wait.length) ((FcClosesv13 p1 p2).wait)),(192,chC 1392 1393 1394 (FcClosesv13 p1 p2))])
                   1424 (by kernel_rfl) rfl (by kernel_rfl) (⟨tt,⟨tt,⟨⟨⟨tt,⟨(chLens_self _),((by first | (rw [Closes_v12 hC (by assumption)]; exact quiet_ok _ _) | (rw [Closes_v22 hC (by assumption)]; exact quiet_ok _ _)))⟩⟩,trivial⟩,⟨tt,trivial⟩⟩⟩⟩) ?_
                 refine Tri.split (((FcTake (FcOut (FcRecv (FcClosesv12 p1))) p2):Int) == 3) (fun h16 => ?_) (fun h16 => ?_)
                 ·
                  have h16':=eq_true_i h16
                  refine Tri.seq_region [(108,qb true)] none [6] [] (TT∧(TT∧((True∧((((FcTake (FcOut (FcRecv (FcClosesv12 p1))) p2):Int) == 3)=true))∧(TT∧(TT∧(TT∧(TT∧(TT∧(TT∧(TT∧(TT∧(TT∧(TT∧(TT∧(TT∧((((True∧((chLens ((FcClosesv13 p1 p2).wait.length) ((FcClosesv13 p1 p2).got.length) ((FcClosesv13 p1 p2).out.length) ((FcClosesv13 p1 p2).wait.length) ((FcClosesv13 p1 p2).got.length) (FcClosesv13 p1 p2))∧True))∧(([some (chC 1392 1393 1394 (FcClosesv13 p1 p2)),some (.ints .u8 ((FcClosesv13 p1 p2).wait.length) ((FcClosesv13 p1 p2).wait)),some (.ints .u8 ((FcClosesv13 p1 p2).got.length) ((FcClosesv13 p1 p2).got)),some (.vec .row ((FcClosesv13 p1 p2).out))]:List (Option Blk))=[some (chC 1392 1393 1394 (FcClosesv13 p1 p2)),some (.ints .u8 ((FcClosesv13 p1 p2).wait.length) ((FcClosesv13 p1 p2).wait)),some (.ints .u8 ((FcClosesv13 p1 p2).got.length) ((FcClosesv13 p1 p2).got)),some (.vec .row ((FcClosesv13 p1 p2).out))]))∧True)∧(TT∧(TT∧(TT∧True)))))))))))))))))))
                    ([(6,.sc (.b (((FcState (FcClosesv13 p1 p2)):Int) == 3)))],[])
                    1728 (by kernel_rfl) rfl (by kernel_rfl) (⟨tt,⟨tt,⟨⟨trivial,(h16)⟩,⟨tt,⟨tt,⟨tt,⟨tt,⟨tt,⟨tt,⟨tt,⟨tt,⟨tt,⟨tt,⟨tt,⟨tt,⟨⟨⟨⟨trivial,⟨(chLens_self _),trivial⟩⟩,(rfl)⟩,trivial⟩,⟨tt,⟨tt,⟨tt,trivial⟩⟩⟩⟩⟩⟩⟩⟩⟩⟩⟩⟩⟩⟩⟩⟩⟩⟩⟩) ?_
                  refine Tri.ret ?_
                  repeat (first | refine thenP_ret ?_ | refine blkP_ret ?_ | refine countP_ret ?_ | refine joinP_ret ?_ | refine iterP_ret ?_)
                  refine endP.conv (r':=⟨.sc (.b (((FcState (FcClosesv13 p1 p2)):Int) == 3)),[]⟩) (by simp only [chC,FcCloses,h1,h2,h3,h5,h6,h7,h8,h9,h11,h12,h13,h14,h15,h16,sel_true,sel_false]) ?_
                  exact endP.ret [] TT (by kernel_rfl) (by kernel_rfl) tt
                 ·
                  have h16':=eq_false_i h16
                  refine Tri.split (decide (((p2.length:Int):Int) > 0)) (fun h17 => ?_) (fun h17 => ?_)
                  ·
                   have h17':=of_decide_eq_true h17
                   refine Tri.split ((p2.getD 0 0:Int) == 90) (fun h18 => ?_) (fun h18 => ?_)
                   ·
                    have h18':=eq_true_i h18
                    refine Tri.seq_region [(108,qb false),(112,qb true),(119,qb true)] none [6] [] (TT∧(TT∧((True∧((((FcTake (FcOut (FcRecv (FcClosesv12 p1))) p2):Int) == 3)=false))∧(TT∧(TT∧(TT∧((True∧((decide (((p2.length:Int):Int) > 0))=true))∧(TT∧((((0:Int)≤0∧0 < (p2.length:Int))∧True)∧(((0 < p2.length)∧True)∧(TT∧(TT∧(TT∧((True∧(((p2.getD 0 0:Int) == 90)=true))∧(TT∧((((True∧((chLens ((FcClosesv13 p1 p2).wait.length) ((FcClosesv13 p1 p2).got.length) ((FcClosesv13 p1 p2).out.length) ((FcClosesv13 p1 p2).wait.length) ((FcClosesv13 p1 p2).got.length) (FcClosesv13 p1 p2))∧True))∧(([some (chC 1392 1393 1394 (FcClosesv13 p1 p2)),some (.ints .u8 ((FcClosesv13 p1 p2).wait.length) ((FcClosesv13 p1 p2).wait)),some (.ints .u8 ((FcClosesv13 p1 p2).got.length) ((FcClosesv13 p1 p2).got)),some (.vec .row ((FcClosesv13 p1 p2).out))]:List (Option Blk))=[some (chC 1392 1393 1394 (FcClosesv13 p1 p2)),some (.ints .u8 ((FcClosesv13 p1 p2).wait.length) ((FcClosesv13 p1 p2).wait)),some (.ints .u8 ((FcClosesv13 p1 p2).got.length) ((FcClosesv13 p1 p2).got)),some (.vec .row ((FcClosesv13 p1 p2).out))]))∧True)∧(TT∧(TT∧(TT∧True)))))))))))))))))))
                      ([(6,.sc (.b (((FcState (FcClosesv13 p1 p2)):Int) == 3)))],[])
                      1728 (by kernel_rfl) rfl (by kernel_rfl) (⟨tt,⟨tt,⟨⟨trivial,(h16)⟩,⟨tt,⟨tt,⟨tt,⟨⟨trivial,(h17)⟩,⟨tt,⟨⟨(by first | omega | (dsimp only; omega) | decide | (simp only [FcClosesv2,FcClosesv3,FcClosesv4,FcClosesv5,FcClosesv10,FcClosesv11,FcClosesv12,FcClosesv13,FcClosesv14,FcClosesv15,FcClosesv20,FcClosesv21,FcClosesv22,FcClosesv23,len_say]; omega)),trivial⟩,⟨⟨(by first | omega | (dsimp only; omega) | decide | (simp only [FcClosesv2,FcClosesv3,FcClosesv4,FcClosesv5,FcClosesv10,FcClosesv11,FcClosesv12,FcClosesv13,FcClosesv14,FcClosesv15,FcClosesv20,FcClosesv21,FcClosesv22,FcClosesv23,len_say]; omega)),trivial⟩,⟨tt,⟨tt,⟨tt,⟨⟨trivial,(h18)⟩,⟨tt,⟨⟨⟨⟨trivial,⟨(chLens_self _),trivial⟩⟩,(rfl)⟩,trivial⟩,⟨tt,⟨tt,⟨tt,trivial⟩⟩⟩⟩⟩⟩⟩⟩⟩⟩⟩⟩⟩⟩⟩⟩⟩⟩⟩) ?_
                    refine Tri.ret ?_
                    repeat (first | refine thenP_ret ?_ | refine blkP_ret ?_ | refine countP_ret ?_ | refine joinP_ret ?_ | refine iterP_ret ?_)
                    refine endP.conv (r':=⟨.sc (.b (((FcState (FcClosesv13 p1 p2)):Int) == 3)),[]⟩) (by simp only [chC,FcCloses,h1,h2,h3,h5,h6,h7,h8,h9,h11,h12,h13,h14,h15,h16,h17,h18,sel_true,sel_false]) ?_
                    exact endP.ret [] TT (by kernel_rfl) (by kernel_rfl) tt
                   ·
                    have h18':=eq_false_i h18
                    refine Tri.seq_region [(108,qb false),(112,qb true),(119,qb false)] none [6] [] (TT∧(TT∧((True∧((((FcTake (FcOut (FcRecv (FcClosesv12 p1))) p2):Int) == 3)=false))∧(TT∧(TT∧(TT∧((True∧((decide (((p2.length:Int):Int) > 0))=true))∧(TT∧((((0:Int)≤0∧0 < (p2.length:Int))∧True)∧(((0 < p2.length)∧True)∧(TT∧(TT∧(TT∧((True∧(((p2.getD 0 0:Int) == 90)=false))∧(TT∧(TT∧(TT∧(TT∧(TT∧True)))))))))))))))))))
                      ([(6,.sc (.b false))],[])
                      1728 (by kernel_rfl) rfl (by kernel_rfl) (⟨tt,⟨tt,⟨⟨trivial,(h16)⟩,⟨tt,⟨tt,⟨tt,⟨⟨trivial,(h17)⟩,⟨tt,⟨⟨(by first | omega | (dsimp only; omega) | decide | (simp only [FcClosesv2,FcClosesv3,FcClosesv4,FcClosesv5,FcClosesv10,FcClosesv11,FcClosesv12,FcClosesv13,FcClosesv14,FcClosesv15,FcClosesv20,FcClosesv21,FcClosesv22,FcClosesv23,len_say]; omega)),trivial⟩,⟨⟨(by first | omega | (dsimp only; omega) | decide | (simp only [FcClosesv2,FcClosesv3,FcClosesv4,FcClosesv5,FcClosesv10,FcClosesv11,FcClosesv12,FcClosesv13,FcClosesv14,FcClosesv15,FcClosesv20,FcClosesv21,FcClosesv22,FcClosesv23,len_say]; omega)),trivial⟩,⟨tt,⟨tt,⟨tt,⟨⟨trivial,(h18)⟩,⟨tt,⟨tt,⟨tt,⟨tt,⟨tt,trivial⟩⟩⟩⟩⟩⟩⟩⟩⟩⟩⟩⟩⟩⟩⟩⟩⟩⟩⟩) ?_
                    refine Tri.ret ?_
                    repeat (first | refine thenP_ret ?_ | refine blkP_ret ?_ | refine countP_ret ?_ | refine joinP_ret ?_ | refine iterP_ret ?_)
                    refine endP.conv (r':=⟨.sc (.b false),[]⟩) (by simp only [chC,FcCloses,h1,h2,h3,h5,h6,h7,h8,h9,h11,h12,h13,h14,h15,h16,h17,h18,sel_true,sel_false]) ?_
                    exact endP.ret [] TT (by kernel_rfl) (by kernel_rfl) tt
                  ·
                   have h17':=of_decide_eq_false h17
                   refine Tri.seq_region [(108,qb false),(112,qb false)] none [6] [] (TT∧(TT∧((True∧((((FcTake (FcOut (FcRecv (FcClosesv12 p1))) p2):Int) == 3)=false))∧(TT∧(TT∧(TT∧((True∧((decide (((p2.length:Int):Int) > 0))=false))∧(TT∧(TT∧(TT∧(TT∧(TT∧(TT∧(TT∧(TT∧(TT∧(TT∧(TT∧(TT∧True)))))))))))))))))))
                     ([(6,.sc (.b false))],[])
                     1728 (by kernel_rfl) rfl (by kernel_rfl) (⟨tt,⟨tt,⟨⟨trivial,(h16)⟩,⟨tt,⟨tt,⟨tt,⟨⟨trivial,(h17)⟩,⟨tt,⟨tt,⟨tt,⟨tt,⟨tt,⟨tt,⟨tt,⟨tt,⟨tt,⟨tt,⟨tt,⟨tt,trivial⟩⟩⟩⟩⟩⟩⟩⟩⟩⟩⟩⟩⟩⟩⟩⟩⟩⟩⟩) ?_
                   refine Tri.ret ?_
                   repeat (first | refine thenP_ret ?_ | refine blkP_ret ?_ | refine countP_ret ?_ | refine joinP_ret ?_ | refine iterP_ret ?_)
                   refine endP.conv (r':=⟨.sc (.b false),[]⟩) (by simp only [chC,FcCloses,h1,h2,h3,h5,h6,h7,h8,h9,h11,h12,h13,h14,h15,h16,h17,sel_true,sel_false]) ?_
                   exact endP.ret [] TT (by kernel_rfl) (by kernel_rfl) tt
      ·
       refine Tri.skip ?_
       change Tri _ _ _ _ _ _
       refine Tri.seq_region [] none [10,9,1,2] [434,433,432,192,211,210,209,208] (TT∧(TT∧(((TT∧((chLens (((itr (FcClosesl0) 4 ((FcBegin_1 (FcNew false)),(FcNew true))).1).wait.length) (((itr (FcClosesl0) 4 ((FcBegin_1 (FcNew false)),(FcNew true))).1).got.length) (((itr (FcClosesl0) 4 ((FcBegin_1 (FcNew false)),(FcNew true))).1).out.length) (((itr (FcClosesl0) 4 ((FcBegin_1 (FcNew false)),(FcNew true))).1).wait.length) (((itr (FcClosesl0) 4 ((FcBegin_1 (FcNew false)),(FcNew true))).1).got.length) ((itr (FcClosesl0) 4 ((FcBegin_1 (FcNew false)),(FcNew true))).1))∧(chFlow ((itr (FcClosesl0) 4 ((FcBegin_1 (FcNew false)),(FcNew true))).1)∧((itr (FcClosesl0) 4 ((FcBegin_1 (FcNew false)),(FcNew true))).1).out.length + ((itr (FcClosesl0) 4 ((FcBegin_1 (FcNew false)),(FcNew true))).1).wait.length + p1.length≤1000000000)))∧True)∧True)))
         ([(10,.sc (.p 208 0)),(9,.sc (.p 192 0)),(1,.sc (.ro .u8 p1)),(2,.sc (.ro .u8 p2))],[(434,.vec .row ((FcClosesv14 p1).out)),(433,.ints .u8 ((FcClosesv14 p1).got.length) ((FcClosesv14 p1).got)),(432,.ints .u8 ((FcClosesv14 p1).wait.length) ((FcClosesv14 p1).wait)),(192,chC 432 433 434 (FcClosesv14 p1)),(211,.vec .row ((itr (FcClosesl0) 4 ((FcBegin_1 (FcNew false)),(FcNew true))).2.out)),(210,.ints .u8 ((itr (FcClosesl0) 4 ((FcBegin_1 (FcNew false)),(FcNew true))).2.got.length) ((itr (FcClosesl0) 4 ((FcBegin_1 (FcNew false)),(FcNew true))).2.got)),(209,.ints .u8 ((itr (FcClosesl0) 4 ((FcBegin_1 (FcNew false)),(FcNew true))).2.wait.length) ((itr (FcClosesl0) 4 ((FcBegin_1 (FcNew false)),(FcNew true))).2.wait)),(208,chC 209 210 211 ((itr (FcClosesl0) 4 ((FcBegin_1 (FcNew false)),(FcNew true))).2))])
         448 (by kernel_rfl) rfl (by kernel_rfl) (⟨tt,⟨tt,⟨⟨⟨tt,⟨(chLens_self _),((by first | (rw [Closes_l1 hC (by assumption)]; exact (send_pre (!true) (by omega)).2.2) | (rw [(Closes_v4 hC (by assumption)).1,(close_is true _).2]; exact (send_pre true (by omega)).2.1) | (rw [Closes_loop]; exact (send_pre true (by omega)).1) | (rw [Closes_l2 hC (by assumption)]; exact (send_pre (!false) (by omega)).2.2) | (rw [(Closes_v14 hC (by assumption)).1,(close_is false _).2]; exact (send_pre false (by omega)).2.1) | (rw [Closes_loop]; exact (send_pre false (by omega)).1)))⟩⟩,trivial⟩,trivial⟩⟩⟩) ?_
       refine Tri.seq ?_
       refine Tri.split (((FcClose (FcClosesv14 p1)):Int) != 0) (fun h19 => ?_) (fun h19 => ?_)
       ·
        have h19':=ne_true_i h19
        refine Tri.seq_region [(47,qb true)] none [62,10,9,1,2] [466,465,464,192,211,210,209,208] (TT∧(((True∧((chLens ((FcClosesv14 p1).wait.length) ((FcClosesv14 p1).got.length) ((FcClosesv14 p1).out.length) ((FcClosesv14 p1).wait.length) ((FcClosesv14 p1).got.length) (FcClosesv14 p1))∧((FcClosesv14 p1).out.length≤900000000)))∧True)∧(TT∧((True∧((((FcClose (FcClosesv14 p1)):Int) != 0)=true))∧(TT∧(TT∧(TT∧(TT∧(TT∧(TT∧(TT∧(TT∧(TT∧(TT∧(TT∧(TT∧(TT∧(TT∧(TT∧True)))))))))))))))))))
          ([(62,.sc (.b true)),(10,.sc (.p 208 0)),(9,.sc (.p 192 0)),(1,.sc (.ro .u8 p1)),(2,.sc (.ro .u8 p2))],[(466,.vec .row ((FcClose_1 (FcClosesv14 p1)).out)),(465,.ints .u8 ((FcClose_1 (FcClosesv14 p1)).got.length) ((FcClose_1 (FcClosesv14 p1)).got)),(464,.ints .u8 ((FcClose_1 (FcClosesv14 p1)).wait.length) ((FcClose_1 (FcClosesv14 p1)).wait)),(192,chC 464 465 466 (FcClose_1 (FcClosesv14 p1))),(211,.vec .row ((itr (FcClosesl0) 4 ((FcBegin_1 (FcNew false)),(FcNew true))).2.out)),(210,.ints .u8 ((itr (FcClosesl0) 4 ((FcBegin_1 (FcNew false)),(FcNew true))).2.got.length) ((itr (FcClosesl0) 4 ((FcBegin_1 (FcNew false)),(FcNew true))).2.got)),(209,.ints .u8 ((itr (FcClosesl0) 4 ((FcBegin_1 (FcNew false)),(FcNew true))).2.wait.length) ((itr (FcClosesl0) 4 ((FcBegin_1 (FcNew false)),(FcNew true))).2.wait)),(208,chC 209 210 211 ((itr (FcClosesl0) 4 ((FcBegin_1 (FcNew false)),(FcNew true))).2))])
          752 (by kernel_rfl) rfl (by kernel_rfl) (⟨tt,⟨⟨⟨trivial,⟨(chLens_self _),((by first | (rw [(Closes_v4 hC (by assumption)).1]; exact (close_pre true (by omega)).1) | (rw [(Closes_v4 hC (by assumption)).2.1]; exact (close_pre true (by omega)).2.1) | (rw [(Closes_v14 hC (by assumption)).1]; exact (close_pre false (by omega)).1) | (rw [(Closes_v14 hC (by assumption)).2.1]; exact (close_pre false (by omega)).2.1)))⟩⟩,trivial⟩,⟨tt,⟨⟨trivial,(h19)⟩,⟨tt,⟨tt,⟨tt,⟨tt,⟨tt,⟨tt,⟨tt,⟨tt,⟨tt,⟨tt,⟨tt,⟨tt,⟨tt,⟨tt,⟨tt,trivial⟩⟩⟩⟩⟩⟩⟩⟩⟩⟩⟩⟩⟩⟩⟩⟩⟩⟩⟩) ?_
        refine Tri.cond_true (by kernel_rfl) ?_
        refine Tri.seq_region [] none [6] [] (TT∧True)
          ([(6,.sc (.b false))],[])
          768 (by kernel_rfl) rfl (by kernel_rfl) (⟨tt,trivial⟩) ?_
        refine Tri.ret ?_
        repeat (first | refine thenP_ret ?_ | refine blkP_ret ?_ | refine countP_ret ?_ | refine joinP_ret ?_ | refine iterP_ret ?_)
        refine endP.conv (r':=⟨.sc (.b false),[]⟩) (by simp only [chC,FcCloses,h1,h2,h3,h5,h19,sel_true,sel_false]) ?_
        exact endP.ret [] TT (by kernel_rfl) (by kernel_rfl) tt
       ·
        have h19':=ne_false_i h19
        refine Tri.split (((FcSend (FcClose_1 (FcClosesv14 p1)) p1):Int) != 8) (fun h20 => ?_) (fun h20 => ?_)
        ·
         have h20':=ne_true_i h20
         refine Tri.seq_region [(47,qb false),(53,qb true)] none [62,10,9,1,2] [546,545,544,192,211,210,209,208] (TT∧(((True∧((chLens ((FcClosesv14 p1).wait.length) ((FcClosesv14 p1).got.length) ((FcClosesv14 p1).out.length) ((FcClosesv14 p1).wait.length) ((FcClosesv14 p1).got.length) (FcClosesv14 p1))∧((FcClosesv14 p1).out.length≤900000000)))∧True)∧(TT∧((True∧((((FcClose (FcClosesv14 p1)):Int) != 0)=false))∧(TT∧(TT∧(((TT∧((chLens ((FcClose_1 (FcClosesv14 p1)).wait.length) ((FcClose_1 (FcClosesv14 p1)).got.length) ((FcClose_1 (FcClosesv14 p1)).out.length) ((FcClose_1 (FcClosesv14 p1)).wait.length) ((FcClose_1 (FcClosesv14 p1)).got.length) (FcClose_1 (FcClosesv14 p1)))∧(chFlow (FcClose_1 (FcClosesv14 p1))∧(FcClose_1 (FcClosesv14 p1)).out.length + (FcClose_1 (FcClosesv14 p1)).wait.length + p1.length≤1000000000)))∧True)∧(TT∧(TT∧((True∧((((FcSend (FcClose_1 (FcClosesv14 p1)) p1):Int) != 8)=true))∧(TT∧(TT∧(TT∧(TT∧(TT∧(TT∧(TT∧(TT∧(TT∧True)))))))))))))))))))
           ([(62,.sc (.b true)),(10,.sc (.p 208 0)),(9,.sc (.p 192 0)),(1,.sc (.ro .u8 p1)),(2,.sc (.ro .u8 p2))],[(546,.vec .row ((FcClosesv15 p1).out)),(545,.ints .u8 ((FcClosesv15 p1).got.length) ((FcClosesv15 p1).got)),(544,.ints .u8 ((FcClosesv15 p1).wait.length) ((FcClosesv15 p1).wait)),(192,chC 544 545 546 (FcClosesv15 p1)),(211,.vec .row ((itr (FcClosesl0) 4 ((FcBegin_1 (FcNew false)),(FcNew true))).2.out)),(210,.ints .u8 ((itr (FcClosesl0) 4 ((FcBegin_1 (FcNew false)),(FcNew true))).2.got.length) ((itr (FcClosesl0) 4 ((FcBegin_1 (FcNew false)),(FcNew true))).2.got)),(209,.ints .u8 ((itr (FcClosesl0) 4 ((FcBegin_1 (FcNew false)),(FcNew true))).2.wait.length) ((itr (FcClosesl0) 4 ((FcBegin_1 (FcNew false)),(FcNew true))).2.wait)),(208,chC 209 210 211 ((itr (FcClosesl0) 4 ((FcBegin_1 (FcNew false)),(FcNew true))).2))])
           752 (by kernel_rfl) rfl (by kernel_rfl) (⟨tt,⟨⟨⟨trivial,⟨(chLens_self _),((by first | (rw [(Closes_v4 hC (by assumption)).1]; exact (close_pre true (by omega)).1) | (rw [(Closes_v4 hC (by assumption)).2.1]; exact (close_pre true (by omega)).2.1) | (rw [(Closes_v14 hC (by assumption)).1]; exact (close_pre false (by omega)).1) | (rw [(Closes_v14 hC (by assumption)).2.1]; exact (close_pre false (by omega)).2.1)))⟩⟩,trivial⟩,⟨tt,⟨⟨trivial,(h19)⟩,⟨tt,⟨tt,⟨⟨⟨tt,⟨(chLens_self _),((by first | (rw [Closes_l1 hC (by assumption)]; exact (send_pre (!true) (by omega)).2.2) | (rw [(Closes_v4 hC (by assumption)).1,(close_is true _).2]; exact (send_pre true (by omega)).2.1) | (rw [Closes_loop]; exact (send_pre true (by omega)).1) | (rw [Closes_l2 hC (by assumption)]; exact (send_pre (!false) (by omega)).2.2) | (rw [(Closes_v14 hC (by assumption)).1,(close_is false _).2]; exact (send_pre false (by omega)).2.1) | (rw [Closes_loop]; exact (send_pre false (by omega)).1)))⟩⟩,trivial⟩,⟨tt,⟨tt,⟨⟨trivial,(h20)⟩,⟨tt,⟨tt,⟨tt,⟨tt,⟨tt,⟨tt,⟨tt,⟨tt,⟨tt,trivial⟩⟩⟩⟩⟩⟩⟩⟩⟩⟩⟩⟩⟩⟩⟩⟩⟩⟩⟩) ?_
         refine Tri.cond_true (by kernel_rfl) ?_
         refine Tri.seq_region [] none [6] [] (TT∧True)
           ([(6,.sc (.b false))],[])
           768 (by kernel_rfl) rfl (by kernel_rfl) (⟨tt,trivial⟩) ?_
         refine Tri.ret ?_
         repeat (first | refine thenP_ret ?_ | refine blkP_ret ?_ | refine countP_ret ?_ | refine joinP_ret ?_ | refine iterP_ret ?_)
         refine endP.conv (r':=⟨.sc (.b false),[]⟩) (by simp only [chC,FcCloses,h1,h2,h3,h5,h19,h20,sel_true,sel_false]) ?_
         exact endP.ret [] TT (by kernel_rfl) (by kernel_rfl) tt
        ·
         have h20':=ne_false_i h20
         refine Tri.split (((FcClose (FcClosesv15 p1)):Int) != 8) (fun h21 => ?_) (fun h21 => ?_)
         ·
          have h21':=ne_true_i h21
          refine Tri.seq_region [(47,qb false),(53,qb false),(58,qb true)] none [62,10,9,1,2] [626,625,624,192,211,210,209,208] (TT∧(((True∧((chLens ((FcClosesv14 p1).wait.length) ((FcClosesv14 p1).got.length) ((FcClosesv14 p1).out.length) ((FcClosesv14 p1).wait.length) ((FcClosesv14 p1).got.length) (FcClosesv14 p1))∧((FcClosesv14 p1).out.length≤900000000)))∧True)∧(TT∧((True∧((((FcClose (FcClosesv14 p1)):Int) != 0)=false))∧(TT∧(TT∧(((TT∧((chLens ((FcClose_1 (FcClosesv14 p1)).wait.length) ((FcClose_1 (FcClosesv14 p1)).got.length) ((FcClose_1 (FcClosesv14 p1)).out.length) ((FcClose_1 (FcClosesv14 p1)).wait.length) ((FcClose_1 (FcClosesv14 p1)).got.length) (FcClose_1 (FcClosesv14 p1)))∧(chFlow (FcClose_1 (FcClosesv14 p1))∧(FcClose_1 (FcClosesv14 p1)).out.length + (FcClose_1 (FcClosesv14 p1)).wait.length + p1.length≤1000000000)))∧True)∧(TT∧(TT∧((True∧((((FcSend (FcClose_1 (FcClosesv14 p1)) p1):Int) != 8)=false))∧(TT∧(((True∧((chLens ((FcClosesv15 p1).wait.length) ((FcClosesv15 p1).got.length) ((FcClosesv15 p1).out.length) ((FcClosesv15 p1).wait.length) ((FcClosesv15 p1).got.length) (FcClosesv15 p1))∧((FcClosesv15 p1).out.length≤900000000)))∧True)∧(TT∧(TT∧((True∧((((FcClose (FcClosesv15 p1)):Int) != 8)=true))∧(TT∧(TT∧(TT∧(TT∧True)))))))))))))))))))
            ([(62,.sc (.b true)),(10,.sc (.p 208 0)),(9,.sc (.p 192 0)),(1,.sc (.ro .u8 p1)),(2,.sc (.ro .u8 p2))],[(626,.vec .row ((FcClose_1 (FcClosesv15 p1)).out)),(625,.ints .u8 ((FcClose_1 (FcClosesv15 p1)).got.length) ((FcClose_1 (FcClosesv15 p1)).got)),(624,.ints .u8 ((FcClose_1 (FcClosesv15 p1)).wait.length) ((FcClose_1 (FcClosesv15 p1)).wait)),(192,chC 624 625 626 (FcClose_1 (FcClosesv15 p1))),(211,.vec .row ((itr (FcClosesl0) 4 ((FcBegin_1 (FcNew false)),(FcNew true))).2.out)),(210,.ints .u8 ((itr (FcClosesl0) 4 ((FcBegin_1 (FcNew false)),(FcNew true))).2.got.length) ((itr (FcClosesl0) 4 ((FcBegin_1 (FcNew false)),(FcNew true))).2.got)),(209,.ints .u8 ((itr (FcClosesl0) 4 ((FcBegin_1 (FcNew false)),(FcNew true))).2.wait.length) ((itr (FcClosesl0) 4 ((FcBegin_1 (FcNew false)),(FcNew true))).2.wait)),(208,chC 209 210 211 ((itr (FcClosesl0) 4 ((FcBegin_1 (FcNew false)),(FcNew true))).2))])
            752 (by kernel_rfl) rfl (by kernel_rfl) (⟨tt,⟨⟨⟨trivial,⟨(chLens_self _),((by first | (rw [(Closes_v4 hC (by assumption)).1]; exact (close_pre true (by omega)).1) | (rw [(Closes_v4 hC (by assumption)).2.1]; exact (close_pre true (by omega)).2.1) | (rw [(Closes_v14 hC (by assumption)).1]; exact (close_pre false (by omega)).1) | (rw [(Closes_v14 hC (by assumption)).2.1]; exact (close_pre false (by omega)).2.1)))⟩⟩,trivial⟩,⟨tt,⟨⟨trivial,(h19)⟩,⟨tt,⟨tt,⟨⟨⟨tt,⟨(chLens_self _),((by first | (rw [Closes_l1 hC (by assumption)]; exact (send_pre (!true) (by omega)).2.2) | (rw [(Closes_v4 hC (by assumption)).1,(close_is true _).2]; exact (send_pre true (by omega)).2.1) | (rw [Closes_loop]; exact (send_pre true (by omega)).1) | (rw [Closes_l2 hC (by assumption)]; exact (send_pre (!false) (by omega)).2.2) | (rw [(Closes_v14 hC (by assumption)).1,(close_is false _).2]; exact (send_pre false (by omega)).2.1) | (rw [Closes_loop]; exact (send_pre false (by omega)).1)))⟩⟩,trivial⟩,⟨tt,⟨tt,⟨⟨trivial,(h20)⟩,⟨tt,⟨⟨⟨trivial,⟨(chLens_self _),((by first | (rw [(Closes_v4 hC (by assumption)).1]; exact (close_pre true (by omega)).1) | (rw [(Closes_v4 hC (by assumption)).2.1]; exact (close_pre true (by omega)).2.1) | (rw [(Closes_v14 hC (by assumption)).1]; exact (close_pre false (by omega)).1) | (rw [(Closes_v14 hC (by assumption)).2.1]; exact (close_pre false (by omega)).2.1)))⟩⟩,trivial⟩,⟨tt,⟨tt,⟨⟨trivial,(h21)⟩,⟨tt,⟨tt,⟨tt,⟨tt,trivial⟩⟩⟩⟩⟩⟩⟩⟩⟩⟩⟩⟩⟩⟩⟩⟩⟩⟩⟩) ?_
          refine Tri.cond_true (by kernel_rfl) ?_
          refine Tri.seq_region [] none [6] [] (TT∧True)
            ([(6,.sc (.b false))],[])
            768 (by kernel_rfl) rfl (by kernel_rfl) (⟨tt,trivial⟩) ?_
          refine Tri.ret ?_
          repeat (first | refine thenP_ret ?_ | refine blkP_ret ?_ | refine countP_ret ?_ | refine joinP_ret ?_ | refine iterP_ret ?_)
          refine endP.conv (r':=⟨.sc (.b false),[]⟩) (by simp only [chC,FcCloses,h1,h2,h3,h5,h19,h20,h21,sel_true,sel_false]) ?_
          exact endP.ret [] TT (by kernel_rfl) (by kernel_rfl) tt
         ·
          have h21':=ne_false_i h21
          refine Tri.seq_region [(47,qb false),(53,qb false),(58,qb false)] none [62,10,9,1,2] [626,625,624,192,211,210,209,208] (TT∧(((True∧((chLens ((FcClosesv14 p1).wait.length) ((FcClosesv14 p1).got.length) ((FcClosesv14 p1).out.length) ((FcClosesv14 p1).wait.length) ((FcClosesv14 p1).got.length) (FcClosesv14 p1))∧((FcClosesv14 p1).out.length≤900000000)))∧True)∧(TT∧((True∧((((FcClose (FcClosesv14 p1)):Int) != 0)=false))∧(TT∧(TT∧(((TT∧((chLens ((FcClose_1 (FcClosesv14 p1)).wait.length) ((FcClose_1 (FcClosesv14 p1)).got.length) ((FcClose_1 (FcClosesv14 p1)).out.length) ((FcClose_1 (FcClosesv14 p1)).wait.length) ((FcClose_1 (FcClosesv14 p1)).got.length) (FcClose_1 (FcClosesv14 p1)))∧(chFlow (FcClose_1 (FcClosesv14 p1))∧(FcClose_1 (FcClosesv14 p1)).out.length + (FcClose_1 (FcClosesv14 p1)).wait.length + p1.length≤1000000000)))∧True)∧(TT∧(TT∧((True∧((((FcSend (FcClose_1 (FcClosesv14 p1)) p1):Int) != 8)=false))∧(TT∧(((True∧((chLens ((FcClosesv15 p1).wait.length) ((FcClosesv15 p1).got.length) ((FcClosesv15 p1).out.length) ((FcClosesv15 p1).wait.length) ((FcClosesv15 p1).got.length) (FcClosesv15 p1))∧((FcClosesv15 p1).out.length≤900000000)))∧True)∧(TT∧(TT∧((True∧((((FcClose (FcClosesv15 p1)):Int) != 8)=false))∧(TT∧((((True∧((chLens ((FcClose_1 (FcClosesv15 p1)).wait.length) ((FcClose_1 (FcClosesv15 p1)).got.length) ((FcClose_1 (FcClosesv15 p1)).out.length) ((FcClose_1 (FcClosesv15 p1)).wait.length) ((FcClose_1 (FcClosesv15 p1)).got.length) (FcClose_1 (FcClosesv15 p1)))∧True))∧(([some (chC 624 625 626 (FcClose_1 (FcClosesv15 p1))),some (.ints .u8 ((FcClose_1 (FcClosesv15 p1)).wait.length) ((FcClose_1 (FcClosesv15 p1)).wait)),some (.ints .u8 ((FcClose_1 (FcClosesv15 p1)).got.length) ((FcClose_1 (FcClosesv15 p1)).got)),some (.vec .row ((FcClose_1 (FcClosesv15 p1)).out))]:List (Option Blk))=[some (chC 624 625 626 (FcClose_1 (FcClosesv15 p1))),some (.ints .u8 ((FcClose_1 (FcClosesv15 p1)).wait.length) ((FcClose_1 (FcClosesv15 p1)).wait)),some (.ints .u8 ((FcClose_1 (FcClosesv15 p1)).got.length) ((FcClose_1 (FcClosesv15 p1)).got)),some (.vec .row ((FcClose_1 (FcClosesv15 p1)).out))]))∧True)∧(TT∧(TT∧True)))))))))))))))))))
            ([(62,.sc (.b (((FcPending (FcClose_1 (FcClosesv15 p1))):Int) != 0))),(10,.sc (.p 208 0)),(9,.sc (.p 192 0)),(1,.sc (.ro .u8 p1)),(2,.sc (.ro .u8 p2))],[(626,.vec .row ((FcClose_1 (FcClosesv15 p1)).out)),(625,.ints .u8 ((FcClose_1 (FcClosesv15 p1)).got.length) ((FcClose_1 (FcClosesv15 p1)).got)),(624,.ints .u8 ((FcClose_1 (FcClosesv15 p1)).wait.length) ((FcClose_1 (FcClosesv15 p1)).wait)),(192,chC 624 625 626 (FcClose_1 (FcClosesv15 p1))),(211,.vec .row ((itr (FcClosesl0) 4 ((FcBegin_1 (FcNew false)),(FcNew true))).2.out)),(210,.ints .u8 ((itr (FcClosesl0) 4 ((FcBegin_1 (FcNew false)),(FcNew true))).2.got.length) ((itr (FcClosesl0) 4 ((FcBegin_1 (FcNew false)),(FcNew true))).2.got)),(209,.ints .u8 ((itr (FcClosesl0) 4 ((FcBegin_1 (FcNew false)),(FcNew true))).2.wait.length) ((itr (FcClosesl0) 4 ((FcBegin_1 (FcNew false)),(FcNew true))).2.wait)),(208,chC 209 210 211 ((itr (FcClosesl0) 4 ((FcBegin_1 (FcNew false)),(FcNew true))).2))])
            752 (by kernel_rfl) rfl (by kernel_rfl) (⟨tt,⟨⟨⟨trivial,⟨(chLens_self _),((by first | (rw [(Closes_v4 hC (by assumption)).1]; exact (close_pre true (by omega)).1) | (rw [(Closes_v4 hC (by assumption)).2.1]; exact (close_pre true (by omega)).2.1) | (rw [(Closes_v14 hC (by assumption)).1]; exact (close_pre false (by omega)).1) | (rw [(Closes_v14 hC (by assumption)).2.1]; exact (close_pre false (by omega)).2.1)))⟩⟩,trivial⟩,⟨tt,⟨⟨trivial,(h19)⟩,⟨tt,⟨tt,⟨⟨⟨tt,⟨(chLens_self _),((by first | (rw [Closes_l1 hC (by assumption)]; exact (send_pre (!true) (by omega)).2.2) | (rw [(Closes_v4 hC (by assumption)).1,(close_is true _).2]; exact (send_pre true (by omega)).2.1) | (rw [Closes_loop]; exact (send_pre true (by omega)).1) | (rw [Closes_l2 hC (by assumption)]; exact (send_pre (!false) (by omega)).2.2) | (rw [(Closes_v14 hC (by assumption)).1,(close_is false _).2]; exact (send_pre false (by omega)).2.1) | (rw [Closes_loop]; exact (send_pre false (by omega)).1)))⟩⟩,trivial⟩,⟨tt,⟨tt,⟨⟨trivial,(h20)⟩,⟨tt,⟨⟨⟨trivial,⟨(chLens_self _),((by first | (rw [(Closes_v4 hC (by assumption)).1]; exact (close_pre true (by omega)).1) | (rw [(Closes_v4 hC (by assumption)).2.1]; exact (close_pre true (by omega)).2.1) | (rw [(Closes_v14 hC (by assumption)).1]; exact (close_pre false (by omega)).1) | (rw [(Closes_v14 hC (by assumption)).2.1]; exact (close_pre false (by omega)).2.1)))⟩⟩,trivial⟩,⟨tt,⟨tt,⟨⟨trivial,(h21)⟩,⟨tt,⟨⟨⟨⟨trivial,⟨(chLens_self _),trivial⟩⟩,(rfl)⟩,trivial⟩,⟨tt,⟨tt,trivial⟩⟩⟩⟩⟩⟩⟩⟩⟩⟩⟩⟩⟩⟩⟩⟩⟩⟩⟩) ?_
          refine Tri.cond (x:=(((FcPending (FcClose_1 (FcClosesv15 p1))):Int) != 0)) (by kernel_rfl) (fun h22 => ?_) (fun h22 => ?_)
          ·
           have h22':=ne_true_i h22
           refine Tri.seq_region [] none [6] [] (TT∧True)
             ([(6,.sc (.b false))],[])
             768 (by kernel_rfl) rfl (by kernel_rfl) (⟨tt,trivial⟩) ?_
           refine Tri.ret ?_
           repeat (first | refine thenP_ret ?_ | refine blkP_ret ?_ | refine countP_ret ?_ | refine joinP_ret ?_ | refine iterP_ret ?_)
           refine endP.conv (r':=⟨.sc (.b false),[]⟩) (by simp only [chC,FcCloses,h1,h2,h3,h5,h19,h20,h21,h22,sel_true,sel_false]) ?_
           exact endP.ret [] TT (by kernel_rfl) (by kernel_rfl) tt
          ·
           have h22':=ne_false_i h22
           refine Tri.skip ?_
           change Tri _ _ _ _ _ _
           refine Tri.seq ?_
           refine Tri.seq_region [] none [63,10,9,1,2] [626,625,624,192,211,210,209,208] (TT∧True)
             ([(63,.sc (.i .i64 0)),(10,.sc (.p 208 0)),(9,.sc (.p 192 0)),(1,.sc (.ro .u8 p1)),(2,.sc (.ro .u8 p2))],[(626,.vec .row ((FcClose_1 (FcClosesv15 p1)).out)),(625,.ints .u8 ((FcClose_1 (FcClosesv15 p1)).got.length) ((FcClose_1 (FcClosesv15 p1)).got)),(624,.ints .u8 ((FcClose_1 (FcClosesv15 p1)).wait.length) ((FcClose_1 (FcClosesv15 p1)).wait)),(192,chC 624 625 626 (FcClose_1 (FcClosesv15 p1))),(211,.vec .row ((itr (FcClosesl0) 4 ((FcBegin_1 (FcNew false)),(FcNew true))).2.out)),(210,.ints .u8 ((itr (FcClosesl0) 4 ((FcBegin_1 (FcNew false)),(FcNew true))).2.got.length) ((itr (FcClosesl0) 4 ((FcBegin_1 (FcNew false)),(FcNew true))).2.got)),(209,.ints .u8 ((itr (FcClosesl0) 4 ((FcBegin_1 (FcNew false)),(FcNew true))).2.wait.length) ((itr (FcClosesl0) 4 ((FcBegin_1 (FcNew false)),(FcNew true))).2.wait)),(208,chC 209 210 211 ((itr (FcClosesl0) 4 ((FcBegin_1 (FcNew false)),(FcNew true))).2))])
             768 (by kernel_rfl) rfl (by kernel_rfl) (⟨tt,trivial⟩) ?_
           refine Tri.block ?_
           refine Tri.count 768 3 (FcClosesl2) ((FcClose_1 (FcClosesv15 p1)),(itr (FcClosesl0) 4 ((FcBegin_1 (FcNew false)),(FcNew true))).2) (fun k2 z2 => True) (fun k2 z2 => ([(63,.sc (.i .i64 (k2:Int))),(10,.sc (.p 208 0)),(9,.sc (.p 192 0)),(1,.sc (.ro .u8 p1)),(2,.sc (.ro .u8 p2))],[(626,.vec .row z2.1.out),(625,.ints .u8 z2.1.got.length z2.1.got),(624,.ints .u8 z2.1.wait.length z2.1.wait),(192,chC 624 625 626 z2.1),(211,.vec .row z2.2.out),(210,.ints .u8 z2.2.got.length z2.2.got),(209,.ints .u8 z2.2.wait.length z2.2.wait),(208,chC 209 210 211 z2.2)])) trivial (Sub.of_eq (by kernel_rfl)) ?_
           intro k2 z2 hk2 hz2 hJ2
           refine Tri.seq_region [] none [64,63,10,9,1,2] [626,625,624,192,211,210,209,208] (TT∧True)
             ([(64,.sc (.b (decide (((k2:Int):Int) < 3)))),(63,.sc (.i .i64 (k2:Int))),(10,.sc (.p 208 0)),(9,.sc (.p 192 0)),(1,.sc (.ro .u8 p1)),(2,.sc (.ro .u8 p2))],[(626,.vec .row z2.1.out),(625,.ints .u8 z2.1.got.length z2.1.got),(624,.ints .u8 z2.1.wait.length z2.1.wait),(192,chC 624 625 626 z2.1),(211,.vec .row z2.2.out),(210,.ints .u8 z2.2.got.length z2.2.got),(209,.ints .u8 z2.2.wait.length z2.2.wait),(208,chC 209 210 211 z2.2)])
             784 (by kernel_rfl) rfl (by kernel_rfl) (⟨tt,trivial⟩) ?_
           refine Tri.seq ?_
           refine Tri.cond (x:=(decide (((k2:Int):Int) < 3))) (by kernel_rfl) (fun h23 => ?_) (fun h23 => ?_)
           ·
            have h23':=of_decide_eq_true h23
            refine Tri.skip ?_
            change Tri _ _ _ _ _ _
            refine Tri.seq ?_
            refine Tri.block ?_
            refine Tri.seq_region [] none [63,10,9,1,2] [821,820,819,818,817,816,208,192] (TT∧(TT∧(((True∧((chLens z2.1.wait.length z2.1.got.length z2.1.out.length z2.1.wait.length z2.1.got.length z2.1)∧((chLens z2.2.wait.length z2.2.got.length z2.2.out.length z2.2.wait.length z2.2.got.length z2.2)∧(chOk 1000000 z2.2∧z2.1.out.length≤100000))))∧True)∧True)))
              ([(63,.sc (.i .i64 (k2:Int))),(10,.sc (.p 208 0)),(9,.sc (.p 192 0)),(1,.sc (.ro .u8 p1)),(2,.sc (.ro .u8 p2))],[(821,.vec .row ((Fccarry_1 z2.1 z2.2).out)),(820,.ints .u8 ((Fccarry_1 z2.1 z2.2).got.length) ((Fccarry_1 z2.1 z2.2).got)),(819,.ints .u8 ((Fccarry_1 z2.1 z2.2).wait.length) ((Fccarry_1 z2.1 z2.2).wait)),(818,.vec .row ((Fccarry z2.1 z2.2).out)),(817,.ints .u8 ((Fccarry z2.1 z2.2).got.length) ((Fccarry z2.1 z2.2).got)),(816,.ints .u8 ((Fccarry z2.1 z2.2).wait.length) ((Fccarry z2.1 z2.2).wait)),(208,chC 819 820 821 (Fccarry_1 z2.1 z2.2)),(192,chC 816 817 818 (Fccarry z2.1 z2.2))])
              832 (by kernel_rfl) rfl (by kernel_rfl) (⟨tt,⟨tt,⟨⟨⟨trivial,⟨(chLens_self _),⟨(chLens_self _),((by first | exact (Closes_at (by omega) hz0).1 | exact (Closes_at (by omega) hz0).2 | exact (carry_pre true false hC (by omega) k1 (hz1.trans (Closes_l1 hC (by assumption) k1))).1 | exact (carry_pre true false hC (by omega) k1 (hz1.trans (Closes_l1 hC (by assumption) k1))).2 | exact (carry_pre false true hC (by omega) k2 (hz2.trans (Closes_l2 hC (by assumption) k2))).1 | exact (carry_pre false true hC (by omega) k2 (hz2.trans (Closes_l2 hC (by assumption) k2))).2))⟩⟩⟩,trivial⟩,trivial⟩⟩⟩) ?_
            refine Tri.region' [] none [63,10,9,1,2] [869,868,867,866,865,864,192,208] (TT∧(TT∧(((True∧((chLens ((Fccarry_1 z2.1 z2.2).wait.length) ((Fccarry_1 z2.1 z2.2).got.length) ((Fccarry_1 z2.1 z2.2).out.length) ((Fccarry_1 z2.1 z2.2).wait.length) ((Fccarry_1 z2.1 z2.2).got.length) (Fccarry_1 z2.1 z2.2))∧((chLens ((Fccarry z2.1 z2.2).wait.length) ((Fccarry z2.1 z2.2).got.length) ((Fccarry z2.1 z2.2).out.length) ((Fccarry z2.1 z2.2).wait.length) ((Fccarry z2.1 z2.2).got.length) (Fccarry z2.1 z2.2))∧(chOk 1000000 (Fccarry z2.1 z2.2)∧(Fccarry_1 z2.1 z2.2).out.length≤100000))))∧True)∧True)))
              ([(63,.sc (.i .i64 (k2:Int))),(10,.sc (.p 208 0)),(9,.sc (.p 192 0)),(1,.sc (.ro .u8 p1)),(2,.sc (.ro .u8 p2))],[(869,.vec .row ((FcClosesv21 z2).out)),(868,.ints .u8 ((FcClosesv21 z2).got.length) ((FcClosesv21 z2).got)),(867,.ints .u8 ((FcClosesv21 z2).wait.length) ((FcClosesv21 z2).wait)),(866,.vec .row ((FcClosesv20 z2).out)),(865,.ints .u8 ((FcClosesv20 z2).got.length) ((FcClosesv20 z2).got)),(864,.ints .u8 ((FcClosesv20 z2).wait.length) ((FcClosesv20 z2).wait)),(192,chC 867 868 869 (FcClosesv21 z2)),(208,chC 864 865 866 (FcClosesv20 z2))])
              880 (by kernel_rfl) rfl (by kernel_rfl) (⟨tt,⟨tt,⟨⟨⟨trivial,⟨(chLens_self _),⟨(chLens_self _),((by first | exact (Closes_at (by omega) hz0).1 | exact (Closes_at (by omega) hz0).2 | exact (carry_pre true false hC (by omega) k1 (hz1.trans (Closes_l1 hC (by assumption) k1))).1 | exact (carry_pre true false hC (by omega) k1 (hz1.trans (Closes_l1 hC (by assumption) k1))).2 | exact (carry_pre false true hC (by omega) k2 (hz2.trans (Closes_l2 hC (by assumption) k2))).1 | exact (carry_pre false true hC (by omega) k2 (hz2.trans (Closes_l2 hC (by assumption) k2))).2))⟩⟩⟩,trivial⟩,trivial⟩⟩⟩) ?_
            change Tri _ _ _ _ _ _
            refine Tri.region' [(71,qi ((k2 + 1:Nat):Int))] none [63,10,9,1,2] [869,868,867,866,865,864,192,208] ((True∧((iAdd .i64 (k2:Int) 1)=((k2 + 1:Nat):Int)))∧(TT∧True))
              ([(63,.sc (.i .i64 ((k2 + 1:Nat):Int))),(10,.sc (.p 208 0)),(9,.sc (.p 192 0)),(1,.sc (.ro .u8 p1)),(2,.sc (.ro .u8 p2))],[(869,.vec .row ((FcClosesv21 z2).out)),(868,.ints .u8 ((FcClosesv21 z2).got.length) ((FcClosesv21 z2).got)),(867,.ints .u8 ((FcClosesv21 z2).wait.length) ((FcClosesv21 z2).wait)),(866,.vec .row ((FcClosesv20 z2).out)),(865,.ints .u8 ((FcClosesv20 z2).got.length) ((FcClosesv20 z2).got)),(864,.ints .u8 ((FcClosesv20 z2).wait.length) ((FcClosesv20 z2).wait)),(192,chC 867 868 869 (FcClosesv21 z2)),(208,chC 864 865 866 (FcClosesv20 z2))])
              912 (by kernel_rfl) rfl (by kernel_rfl) (⟨⟨trivial,(iAdd_nat (a:=k2) (b:=1) (by omega))⟩,⟨tt,trivial⟩⟩) ?_
            repeat (refine blkP_normal ?_)
            refine countP_normal (by omega) trivial ?_
            exact Sub.ren (ns:=[(869,626),(868,625),(867,624),(192,192),(866,211),(865,210),(864,209),(208,208)]) (kf:=[63,10,9,1,2]) (by kernel_rfl) (by kernel_rfl)
           ·
            have h23':=of_decide_eq_false h23
            refine Tri.exit ?_
            have hend2:k2=3:=by (have:=of_decide_eq_false h23; omega)
            subst hend2; subst hz2
            change Tri _ _ _ _ _ _
            refine Tri.seq ?_
            refine Tri.split (((FcState ((itr (FcClosesl2) 3 ((FcClose_1 (FcClosesv15 p1)),(itr (FcClosesl0) 4 ((FcBegin_1 (FcNew false)),(FcNew true))).2)).1)):Int) != 3) (fun h24 => ?_) (fun h24 => ?_)
            ·
             have h24':=ne_true_i h24
             refine Tri.seq_region [(75,qb true)] none [85,10,1,2] [211,210,209,208] (TT∧((((True∧((chLens (((itr (FcClosesl2) 3 ((FcClose_1 (FcClosesv15 p1)),(itr (FcClosesl0) 4 ((FcBegin_1 (FcNew false)),(FcNew true))).2)).1).wait.length) (((itr (FcClosesl2) 3 ((FcClose_1 (FcClosesv15 p1)),(itr (FcClosesl0) 4 ((FcBegin_1 (FcNew false)),(FcNew true))).2)).1).got.length) (((itr (FcClosesl2) 3 ((FcClose_1 (FcClosesv15 p1)),(itr (FcClosesl0) 4 ((FcBegin_1 (FcNew false)),(FcNew true))).2)).1).out.length) (((itr (FcClosesl2) 3 ((FcClose_1 (FcClosesv15 p1)),(itr (FcClosesl0) 4 ((FcBegin_1 (FcNew false)),(FcNew true))).2)).1).wait.length) (((itr (FcClosesl2) 3 ((FcClose_1 (FcClosesv15 p1)),(itr (FcClosesl0) 4 ((FcBegin_1 (FcNew false)),(FcNew true))).2)).1).got.length) ((itr (FcClosesl2) 3 ((FcClose_1 (FcClosesv15 p1)),(itr (FcClosesl0) 4 ((FcBegin_1 (FcNew false)),(FcNew true))).2)).1))∧True))∧(([some (chC 624 625 626 ((itr (FcClosesl2) 3 ((FcClose_1 (FcClosesv15 p1)),(itr (FcClosesl0) 4 ((FcBegin_1 (FcNew false)),(FcNew true))).2)).1)),some (.ints .u8 ((itr (FcClosesl2) 3 ((FcClose_1 (FcClosesv15 p1)),(itr (FcClosesl0) 4 ((FcBegin_1 (FcNew false)),(FcNew true))).2)).1.wait.length) ((itr (FcClosesl2) 3 ((FcClose_1 (FcClosesv15 p1)),(itr (FcClosesl0) 4 ((FcBegin_1 (FcNew false)),(FcNew true))).2)).1.wait)),some (.ints .u8 ((itr (FcClosesl2) 3 ((FcClose_1 (FcClosesv15 p1)),(itr (FcClosesl0) 4 ((FcBegin_1 (FcNew false)),(FcNew true))).2)).1.got.length) ((itr (FcClosesl2) 3 ((FcClose_1 (FcClosesv15 p1)),(itr (FcClosesl0) 4 ((FcBegin_1 (FcNew false)),(FcNew true))).2)).1.got)),some (.vec .row ((itr (FcClosesl2) 3 ((FcClose_1 (FcClosesv15 p1)),(itr (FcClosesl0) 4 ((FcBegin_1 (FcNew false)),(FcNew true))).2)).1.out))]:List (Option Blk))=[some (chC 624 625 626 ((itr (FcClosesl2) 3 ((FcClose_1 (FcClosesv15 p1)),(itr (FcClosesl0) 4 ((FcBegin_1 (FcNew false)),(FcNew true))).2)).1)),some (.ints .u8 ((itr (FcClosesl2) 3 ((FcClose_1 (FcClosesv15 p1)),(itr (FcClosesl0) 4 ((FcBegin_1 (FcNew false)),(FcNew true))).2)).1.wait.length) ((itr (FcClosesl2) 3 ((FcClose_1 (FcClosesv15 p1)),(itr (FcClosesl0) 4 ((FcBegin_1 (FcNew false)),(FcNew true))).2)).1.wait)),some (.ints .u8 ((itr (FcClosesl2) 3 ((FcClose_1 (FcClosesv15 p1)),(itr (FcClosesl0) 4 ((FcBegin_1 (FcNew false)),(FcNew true))).2)).1.got.length) ((itr (FcClosesl2) 3 ((FcClose_1 (FcClosesv15 p1)),(itr (FcClosesl0) 4 ((FcBegin_1 (FcNew false)),(FcNew true))).2)).1.got)),some (.vec .row ((itr (FcClosesl2) 3 ((FcClose_1 (FcClosesv15 p1)),(itr (FcClosesl0) 4 ((FcBegin_1 (FcNew false)),(FcNew true))).2)).1.out))]))∧True)∧(TT∧((True∧((((FcState ((itr (FcClosesl2) 3 ((FcClose_1 (FcClosesv15 p1)),(itr (FcClosesl0) 4 ((FcBegin_1 (FcNew false)),(FcNew true))).2)).1)):Int) != 3)=true))∧(TT∧(TT∧(TT∧(TT∧(TT∧(TT∧(TT∧(TT∧(TT∧(TT∧True))))))))))))))
               ([(85,.sc (.b true)),(10,.sc (.p 208 0)),(1,.sc (.ro .u8 p1)),(2,.sc (.ro .u8 p2))],[(211,.vec .row ((itr (FcClosesl2) 3 ((FcClose_1 (FcClosesv15 p1)),(itr (FcClosesl0) 4 ((FcBegin_1 (FcNew false)),(FcNew true))).2)).2.out)),(210,.ints .u8 ((itr (FcClosesl2) 3 ((FcClose_1 (FcClosesv15 p1)),(itr (FcClosesl0) 4 ((FcBegin_1 (FcNew false)),(FcNew true))).2)).2.got.length) ((itr (FcClosesl2) 3 ((FcClose_1 (FcClosesv15 p1)),(itr (FcClosesl0) 4 ((FcBegin_1 (FcNew false)),(FcNew true))).2)).2.got)),(209,.ints .u8 ((itr (FcClosesl2) 3 ((FcClose_1 (FcClosesv15 p1)),(itr (FcClosesl0) 4 ((FcBegin_1 (FcNew false)),(FcNew true))).2)).2.wait.length) ((itr (FcClosesl2) 3 ((FcClose_1 (FcClosesv15 p1)),(itr (FcClosesl0) 4 ((FcBegin_1 (FcNew false)),(FcNew true))).2)).2.wait)),(208,chC 209 210 211 ((itr (FcClosesl2) 3 ((FcClose_1 (FcClosesv15 p1)),(itr (FcClosesl0) 4 ((FcBegin_1 (FcNew false)),(FcNew true))).2)).2))])
               1008 (by kernel_rfl) rfl (by kernel_rfl) (⟨tt,⟨⟨⟨⟨trivial,⟨(chLens_self _),trivial⟩⟩,(rfl)⟩,trivial⟩,⟨tt,⟨⟨trivial,(h24)⟩,⟨tt,⟨tt,⟨tt,⟨tt,⟨tt,⟨tt,⟨tt,⟨tt,⟨tt,⟨tt,trivial⟩⟩⟩⟩⟩⟩⟩⟩⟩⟩⟩⟩⟩⟩) ?_
             refine Tri.cond_true (by kernel_rfl) ?_
             refine Tri.seq_region [] none [6] [] (TT∧True)
               ([(6,.sc (.b false))],[])
               1024 (by kernel_rfl) rfl (by kernel_rfl) (⟨tt,trivial⟩) ?_
             refine Tri.ret ?_
             repeat (first | refine thenP_ret ?_ | refine blkP_ret ?_ | refine countP_ret ?_ | refine joinP_ret ?_ | refine iterP_ret ?_)
             refine endP.conv (r':=⟨.sc (.b false),[]⟩) (by simp only [chC,FcCloses,h1,h2,h3,h5,h19,h20,h21,h22,h24,sel_true,sel_false]) ?_
             exact endP.ret [] TT (by kernel_rfl) (by kernel_rfl) tt
            ·
             have h24':=ne_false_i h24
             refine Tri.sub (Sub.up (U':=1728) (by decide)) ?_
             refine Tri.split (((FcState ((itr (FcClosesl2) 3 ((FcClose_1 (FcClosesv15 p1)),(itr (FcClosesl0) 4 ((FcBegin_1 (FcNew false)),(FcNew true))).2)).2)):Int) != 3) (fun h25 => ?_) (fun h25 => ?_)
             ·
              have h25':=ne_true_i h25
              refine Tri.seq_region [(75,qb false),(80,qb true)] none [85,10,1,2] [211,210,209,208] (TT∧((((True∧((chLens (((itr (FcClosesl2) 3 ((FcClose_1 (FcClosesv15 p1)),(itr (FcClosesl0) 4 ((FcBegin_1 (FcNew false)),(FcNew true))).2)).1).wait.length) (((itr (FcClosesl2) 3 ((FcClose_1 (FcClosesv15 p1)),(itr (FcClosesl0) 4 ((FcBegin_1 (FcNew false)),(FcNew true))).2)).1).got.length) (((itr (FcClosesl2) 3 ((FcClose_1 (FcClosesv15 p1)),(itr (FcClosesl0) 4 ((FcBegin_1 (FcNew false)),(FcNew true))).2)).1).out.length) (((itr (FcClosesl2) 3 ((FcClose_1 (FcClosesv15 p1)),(itr (FcClosesl0) 4 ((FcBegin_1 (FcNew false)),(FcNew true))).2)).1).wait.length) (((itr (FcClosesl2) 3 ((FcClose_1 (FcClosesv15 p1)),(itr (FcClosesl0) 4 ((FcBegin_1 (FcNew false)),(FcNew true))).2)).1).got.length) ((itr (FcClosesl2) 3 ((FcClose_1 (FcClosesv15 p1)),(itr (FcClosesl0) 4 ((FcBegin_1 (FcNew false)),(FcNew true))).2)).1))∧True))∧(([some (chC 624 625 626 ((itr (FcClosesl2) 3 ((FcClose_1 (FcClosesv15 p1)),(itr (FcClosesl0) 4 ((FcBegin_1 (FcNew false)),(FcNew true))).2)).1)),some (.ints .u8 ((itr (FcClosesl2) 3 ((FcClose_1 (FcClosesv15 p1)),(itr (FcClosesl0) 4 ((FcBegin_1 (FcNew false)),(FcNew true))).2)).1.wait.length) ((itr (FcClosesl2) 3 ((FcClose_1 (FcClosesv15 p1)),(itr (FcClosesl0) 4 ((FcBegin_1 (FcNew false)),(FcNew true))).2)).1.wait)),some (.ints .u8 ((itr (FcClosesl2) 3 ((FcClose_1 (FcClosesv15 p1)),(itr (FcClosesl0) 4 ((FcBegin_1 (FcNew false)),(FcNew true))).2)).1.got.length) ((itr (FcClosesl2) 3 ((FcClose_1 (FcClosesv15 p1)),(itr (FcClosesl0) 4 ((FcBegin_1 (FcNew false)),(FcNew true))).2)).1.got)),some (.vec .row ((itr (FcClosesl2) 3 ((FcClose_1 (FcClosesv15 p1)),(itr (FcClosesl0) 4 ((FcBegin_1 (FcNew false)),(FcNew true))).2)).1.out))]:List (Option Blk))=[some (chC 624 625 626 ((itr (FcClosesl2) 3 ((FcClose_1 (FcClosesv15 p1)),(itr (FcClosesl0) 4 ((FcBegin_1 (FcNew false)),(FcNew true))).2)).1)),some (.ints .u8 ((itr (FcClosesl2) 3 ((FcClose_1 (FcClosesv15 p1)),(itr (FcClosesl0) 4 ((FcBegin_1 (FcNew false)),(FcNew true))).2)).1.wait.length) ((itr (FcClosesl2) 3 ((FcClose_1 (FcClosesv15 p1)),(itr (FcClosesl0) 4 ((FcBegin_1 (FcNew false)),(FcNew true))).2)).1.wait)),some (.ints .u8 ((itr (FcClosesl2) 3 ((FcClose_1 (FcClosesv15 p1)),(itr (FcClosesl0) 4 ((FcBegin_1 (FcNew false)),(FcNew true))).2)).1.got.length) ((itr (FcClosesl2) 3 ((FcClose_1 (FcClosesv15 p1)),(itr (FcClosesl0) 4 ((FcBegin_1 (FcNew false)),(FcNew true))).2)).1.got)),some (.vec .row ((itr (FcClosesl2) 3 ((FcClose_1 (FcClosesv15 p1)),(itr (FcClosesl0) 4 ((FcBegin_1 (FcNew false)),(FcNew true))).2)).1.out))]))∧True)∧(TT∧((True∧((((FcState ((itr (FcClosesl2) 3 ((FcClose_1 (FcClosesv15 p1)),(itr (FcClosesl0) 4 ((FcBegin_1 (FcNew false)),(FcNew true))).2)).1)):Int) != 3)=false))∧(TT∧((((True∧((chLens (((itr (FcClosesl2) 3 ((FcClose_1 (FcClosesv15 p1)),(itr (FcClosesl0) 4 ((FcBegin_1 (FcNew false)),(FcNew true))).2)).2).wait.length) (((itr (FcClosesl2) 3 ((FcClose_1 (FcClosesv15 p1)),(itr (FcClosesl0) 4 ((FcBegin_1 (FcNew false)),(FcNew true))).2)).2).got.length) (((itr (FcClosesl2) 3 ((FcClose_1 (FcClosesv15 p1)),(itr (FcClosesl0) 4 ((FcBegin_1 (FcNew false)),(FcNew true))).2)).2).out.length) (((itr (FcClosesl2) 3 ((FcClose_1 (FcClosesv15 p1)),(itr (FcClosesl0) 4 ((FcBegin_1 (FcNew false)),(FcNew true))).2)).2).wait.length) (((itr (FcClosesl2) 3 ((FcClose_1 (FcClosesv15 p1)),(itr (FcClosesl0) 4 ((FcBegin_1 (FcNew false)),(FcNew true))).2)).2).got.length) ((itr (FcClosesl2) 3 ((FcClose_1 (FcClosesv15 p1)),(itr (FcClosesl0) 4 ((FcBegin_1 (FcNew false)),(FcNew true))).2)).2))∧True))∧(([some (chC 209 210 211 ((itr (FcClosesl2) 3 ((FcClose_1 (FcClosesv15 p1)),(itr (FcClosesl0) 4 ((FcBegin_1 (FcNew false)),(FcNew true))).2)).2)),some (.ints .u8 ((itr (FcClosesl2) 3 ((FcClose_1 (FcClosesv15 p1)),(itr (FcClosesl0) 4 ((FcBegin_1 (FcNew false)),(FcNew true))).2)).2.wait.length) ((itr (FcClosesl2) 3 ((FcClose_1 (FcClosesv15 p1)),(itr (FcClosesl0) 4 ((FcBegin_1 (FcNew false)),(FcNew true))).2)).2.wait)),some (.ints .u8 ((itr (FcClosesl2) 3 ((FcClose_1 (FcClosesv15 p1)),(itr (FcClosesl0) 4 ((FcBegin_1 (FcNew false)),(FcNew true))).2)).2.got.length) ((itr (FcClosesl2) 3 ((FcClose_1 (FcClosesv15 p1)),(itr (FcClosesl0) 4 ((FcBegin_1 (FcNew false)),(FcNew true))).2)).2.got)),some (.vec .row ((itr (FcClosesl2) 3 ((FcClose_1 (FcClosesv15 p1)),(itr (FcClosesl0) 4 ((FcBegin_1 (FcNew false)),(FcNew true))).2)).2.out))]:List (Option Blk))=[some (chC 209 210 211 ((itr (FcClosesl2) 3 ((FcClose_1 (FcClosesv15 p1)),(itr (FcClosesl0) 4 ((FcBegin_1 (FcNew false)),(FcNew true))).2)).2)),some (.ints .u8 ((itr (FcClosesl2) 3 ((FcClose_1 (FcClosesv15 p1)),(itr (FcClosesl0) 4 ((FcBegin_1 (FcNew false)),(FcNew true))).2)).2.wait.length) ((itr (FcClosesl2) 3 ((FcClose_1 (FcClosesv15 p1)),(itr (FcClosesl0) 4 ((FcBegin_1 (FcNew false)),(FcNew true))).2)).2.wait)),some (.ints .u8 ((itr (FcClosesl2) 3 ((FcClose_1 (FcClosesv15 p1)),(itr (FcClosesl0) 4 ((FcBegin_1 (FcNew false)),(FcNew true))).2)).2.got.length) ((itr (FcClosesl2) 3 ((FcClose_1 (FcClosesv15 p1)),(itr (FcClosesl0) 4 ((FcBegin_1 (FcNew false)),(FcNew true))).2)).2.got)),some (.vec .row ((itr (FcClosesl2) 3 ((FcClose_1 (FcClosesv15 p1)),(itr (FcClosesl0) 4 ((FcBegin_1 (FcNew false)),(FcNew true))).2)).2.out))]))∧True)∧(TT∧(TT∧((True∧((((FcState ((itr (FcClosesl2) 3 ((FcClose_1 (FcClosesv15 p1)),(itr (FcClosesl0) 4 ((FcBegin_1 (FcNew false)),(FcNew true))).2)).2)):Int) != 3)=true))∧(TT∧(TT∧(TT∧(TT∧(TT∧True))))))))))))))
                ([(85,.sc (.b true)),(10,.sc (.p 208 0)),(1,.sc (.ro .u8 p1)),(2,.sc (.ro .u8 p2))],[(211,.vec .row ((itr (FcClosesl2) 3 ((FcClose_1 (FcClosesv15 p1)),(itr (FcClosesl0) 4 ((FcBegin_1 (FcNew false)),(FcNew true))).2)).2.out)),(210,.ints .u8 ((itr (FcClosesl2) 3 ((FcClose_1 (FcClosesv15 p1)),(itr (FcClosesl0) 4 ((FcBegin_1 (FcNew false)),(FcNew true))).2)).2.got.length) ((itr (FcClosesl2) 3 ((FcClose_1 (FcClosesv15 p1)),(itr (FcClosesl0) 4 ((FcBegin_1 (FcNew false)),(FcNew true))).2)).2.got)),(209,.ints .u8 ((itr (FcClosesl2) 3 ((FcClose_1 (FcClosesv15 p1)),(itr (FcClosesl0) 4 ((FcBegin_1 (FcNew false)),(FcNew true))).2)).2.wait.length) ((itr (FcClosesl2) 3 ((FcClose_1 (FcClosesv15 p1)),(itr (FcClosesl0) 4 ((FcBegin_1 (FcNew false)),(FcNew true))).2)).2.wait)),(208,chC 209 210 211 ((itr (FcClosesl2) 3 ((FcClose_1 (FcClosesv15 p1)),(itr (FcClosesl0) 4 ((FcBegin_1 (FcNew false)),(FcNew true))).2)).2))])
                1952 (by kernel_rfl) rfl (by kernel_rfl) (⟨tt,⟨⟨⟨⟨trivial,⟨(chLens_self _),trivial⟩⟩,(rfl)⟩,trivial⟩,⟨tt,⟨⟨trivial,(h24)⟩,⟨tt,⟨⟨⟨⟨trivial,⟨(chLens_self _),trivial⟩⟩,(rfl)⟩,trivial⟩,⟨tt,⟨tt,⟨⟨trivial,(h25)⟩,⟨tt,⟨tt,⟨tt,⟨tt,⟨tt,trivial⟩⟩⟩⟩⟩⟩⟩⟩⟩⟩⟩⟩⟩⟩) ?_
              refine Tri.cond_true (by kernel_rfl) ?_
              refine Tri.seq_region [] none [6] [] (TT∧True)
                ([(6,.sc (.b false))],[])
                1968 (by kernel_rfl) rfl (by kernel_rfl) (⟨tt,trivial⟩) ?_
              refine Tri.ret ?_
              repeat (first | refine thenP_ret ?_ | refine blkP_ret ?_ | refine countP_ret ?_ | refine joinP_ret ?_ | refine iterP_ret ?_)
              refine endP.conv (r':=⟨.sc (.b false),[]⟩) (by simp only [chC,FcCloses,h1,h2,h3,h5,h19,h20,h21,h22,h24,h25,sel_true,sel_false]) ?_
              exact endP.ret [] TT (by kernel_rfl) (by kernel_rfl) tt
             ·
              have h25':=ne_false_i h25
              refine Tri.seq_region [(75,qb false),(80,qb false)] none [85,10,1,2] [1906,1905,1904,208] (TT∧((((True∧((chLens (((itr (FcClosesl2) 3 ((FcClose_1 (FcClosesv15 p1)),(itr (FcClosesl0) 4 ((FcBegin_1 (FcNew false)),(FcNew true))).2)).1).wait.length) (((itr (FcClosesl2) 3 ((FcClose_1 (FcClosesv15 p1)),(itr (FcClosesl0) 4 ((FcBegin_1 (FcNew false)),(FcNew true))).2)).1).got.length) (((itr (FcClosesl2) 3 ((FcClose_1 (FcClosesv15 p1)),(itr (FcClosesl0) 4 ((FcBegin_1 (FcNew false)),(FcNew true))).2)).1).out.length) (((itr (FcClosesl2) 3 ((FcClose_1 (FcClosesv15 p1)),(itr (FcClosesl0) 4 ((FcBegin_1 (FcNew false)),(FcNew true))).2)).1).wait.length) (((itr (FcClosesl2) 3 ((FcClose_1 (FcClosesv15 p1)),(itr (FcClosesl0) 4 ((FcBegin_1 (FcNew false)),(FcNew true))).2)).1).got.length) ((itr (FcClosesl2) 3 ((FcClose_1 (FcClosesv15 p1)),(itr (FcClosesl0) 4 ((FcBegin_1 (FcNew false)),(FcNew true))).2)).1))∧True))∧(([some (chC 624 625 626 ((itr (FcClosesl2) 3 ((FcClose_1 (FcClosesv15 p1)),(itr (FcClosesl0) 4 ((FcBegin_1 (FcNew false)),(FcNew true))).2)).1)),some (.ints .u8 ((itr (FcClosesl2) 3 ((FcClose_1 (FcClosesv15 p1)),(itr (FcClosesl0) 4 ((FcBegin_1 (FcNew false)),(FcNew true))).2)).1.wait.length) ((itr (FcClosesl2) 3 ((FcClose_1 (FcClosesv15 p1)),(itr (FcClosesl0) 4 ((FcBegin_1 (FcNew false)),(FcNew true))).2)).1.wait)),some (.ints .u8 ((itr (FcClosesl2) 3 ((FcClose_1 (FcClosesv15 p1)),(itr (FcClosesl0) 4 ((FcBegin_1 (FcNew false)),(FcNew true))).2)).1.got.length) ((itr (FcClosesl2) 3 ((FcClose_1 (FcClosesv15 p1)),(itr (FcClosesl0) 4 ((FcBegin_1 (FcNew false)),(FcNew true))).2)).1.got)),some (.vec .row ((itr (FcClosesl2) 3 ((FcClose_1 (FcClosesv15 p1)),(itr (FcClosesl0) 4 ((FcBegin_1 (FcNew false)),(FcNew true))).2)).1.out))]:List (Option Blk))=[some (chC 624 625 626 ((itr (FcClosesl2) 3 ((FcClose_1 (FcClosesv15 p1)),(itr (FcClosesl0) 4 ((FcBegin_1 (FcNew false)),(FcNew true))).2)).1)),some (.ints .u8 ((itr (FcClosesl2) 3 ((FcClose_1 (FcClosesv15 p1)),(itr (FcClosesl0) 4 ((FcBegin_1 (FcNew false)),(FcNew true))).2)).1.wait.length) ((itr (FcClosesl2) 3 ((FcClose_1 (FcClosesv15 p1)),(itr (FcClosesl0) 4 ((FcBegin_1 (FcNew false)),(FcNew true))).2)).1.wait)),some (.ints .u8 ((itr (FcClosesl2) 3 ((FcClose_1 (FcClosesv15 p1)),(itr (FcClosesl0) 4 ((FcBegin_1 (FcNew false)),(FcNew true))).2)).1.got.length) ((itr (FcClosesl2) 3 ((FcClose_1 (FcClosesv15 p1)),(itr (FcClosesl0) 4 ((FcBegin_1 (FcNew false)),(FcNew true))).2)).1.got)),some (.vec .row ((itr (FcClosesl2) 3 ((FcClose_1 (FcClosesv15 p1)),(itr (FcClosesl0) 4 ((FcBegin_1 (FcNew false)),(FcNew true))).2)).1.out))]))∧True)∧(TT∧((True∧((((FcState ((itr (FcClosesl2) 3 ((FcClose_1 (FcClosesv15 p1)),(itr (FcClosesl0) 4 ((FcBegin_1 (FcNew false)),(FcNew true))).2)).1)):Int) != 3)=false))∧(TT∧((((True∧((chLens (((itr (FcClosesl2) 3 ((FcClose_1 (FcClosesv15 p1)),(itr (FcClosesl0) 4 ((FcBegin_1 (FcNew false)),(FcNew true))).2)).2).wait.length) (((itr (FcClosesl2) 3 ((FcClose_1 (FcClosesv15 p1)),(itr (FcClosesl0) 4 ((FcBegin_1 (FcNew false)),(FcNew true))).2)).2).got.length) (((itr (FcClosesl2) 3 ((FcClose_1 (FcClosesv15 p1)),(itr (FcClosesl0) 4 ((FcBegin_1 (FcNew false)),(FcNew true))).2)).2).out.length) (((itr (FcClosesl2) 3 ((FcClose_1 (FcClosesv15 p1)),(itr (FcClosesl0) 4 ((FcBegin_1 (FcNew false)),(FcNew true))).2)).2).wait.length) (((itr (FcClosesl2) 3 ((FcClose_1 (FcClosesv15 p1)),(itr (FcClosesl0) 4 ((FcBegin_1 (FcNew false)),(FcNew true))).2)).2).got.length) ((itr (FcClosesl2) 3 ((FcClose_1 (FcClosesv15 p1)),(itr (FcClosesl0) 4 ((FcBegin_1 (FcNew false)),(FcNew true))).2)).2))∧True))∧(([some (chC 209 210 211 ((itr (FcClosesl2) 3 ((FcClose_1 (FcClosesv15 p1)),(itr (FcClosesl0) 4 ((FcBegin_1 (FcNew false)),(FcNew true))).2)).2)),some (.ints .u8 ((itr (FcClosesl2) 3 ((FcClose_1 (FcClosesv15 p1)),(itr (FcClosesl0) 4 ((FcBegin_1 (FcNew false)),(FcNew true))).2)).2.wait.length) ((itr (FcClosesl2) 3 ((FcClose_1 (FcClosesv15 p1)),(itr (FcClosesl0) 4 ((FcBegin_1 (FcNew false)),(FcNew true))).2)).2.wait)),some (.ints .u8 ((itr (FcClosesl2) 3 ((FcClose_1 (FcClosesv15 p1)),(itr (FcClosesl0) 4 ((FcBegin_1 (FcNew false)),(FcNew true))).2)).2.got.length) ((itr (FcClosesl2) 3 ((FcClose_1 (FcClosesv15 p1)),(itr (FcClosesl0) 4 ((FcBegin_1 (FcNew false)),(FcNew true))).2)).2.got)),some (.vec .row ((itr (FcClosesl2) 3 ((FcClose_1 (FcClosesv15 p1)),(itr (FcClosesl0) 4 ((FcBegin_1 (FcNew false)),(FcNew true))).2)).2.out))]:List (Option Blk))=[some (chC 209 210 211 ((itr (FcClosesl2) 3 ((FcClose_1 (FcClosesv15 p1)),(itr (FcClosesl0) 4 ((FcBegin_1 (FcNew false)),(FcNew true))).2)).2)),some (.ints .u8 ((itr (FcClosesl2) 3 ((FcClose_1 (FcClosesv15 p1)),(itr (FcClosesl0) 4 ((FcBegin_1 (FcNew false)),(FcNew true))).2)).2.wait.length) ((itr (FcClosesl2) 3 ((FcClose_1 (FcClosesv15 p1)),(itr (FcClosesl0) 4 ((FcBegin_1 (FcNew false)),(FcNew true))).2)).2.wait)),some (.ints .u8 ((itr (FcClosesl2) 3 ((FcClose_1 (FcClosesv15 p1)),(itr (FcClosesl0) 4 ((FcBegin_1 (FcNew false)),(FcNew true))).2)).2.got.length) ((itr (FcClosesl2) 3 ((FcClose_1 (FcClosesv15 p1)),(itr (FcClosesl0) 4 ((FcBegin_1 (FcNew false)),(FcNew true))).2)).2.got)),some (.vec .row ((itr (FcClosesl2) 3 ((FcClose_1 (FcClosesv15 p1)),(itr (FcClosesl0) 4 ((FcBegin_1 (FcNew false)),(FcNew true))).2)).2.out))]))∧True)∧(TT∧(TT∧((True∧((((FcState ((itr (FcClosesl2) 3 ((FcClose_1 (FcClosesv15 p1)),(itr (FcClosesl0) 4 ((FcBegin_1 (FcNew false)),(FcNew true))).2)).2)):Int) != 3)=false))∧(TT∧(TT∧(((TT∧((chLens (((itr (FcClosesl2) 3 ((FcClose_1 (FcClosesv15 p1)),(itr (FcClosesl0) 4 ((FcBegin_1 (FcNew false)),(FcNew true))).2)).2).wait.length) (((itr (FcClosesl2) 3 ((FcClose_1 (FcClosesv15 p1)),(itr (FcClosesl0) 4 ((FcBegin_1 (FcNew false)),(FcNew true))).2)).2).got.length) (((itr (FcClosesl2) 3 ((FcClose_1 (FcClosesv15 p1)),(itr (FcClosesl0) 4 ((FcBegin_1 (FcNew false)),(FcNew true))).2)).2).out.length) (((itr (FcClosesl2) 3 ((FcClose_1 (FcClosesv15 p1)),(itr (FcClosesl0) 4 ((FcBegin_1 (FcNew false)),(FcNew true))).2)).2).wait.length) (((itr (FcClosesl2) 3 ((FcClose_1 (FcClosesv15 p1)),(itr (FcClosesl0) 4 ((FcBegin_1 (FcNew false)),(FcNew true))).2)).2).got.length) ((itr (FcClosesl2) 3 ((FcClose_1 (FcClosesv15 p1)),(itr (FcClosesl0) 4 ((FcBegin_1 (FcNew false)),(FcNew true))).2)).2))∧(chFlow ((itr (FcClosesl2) 3 ((FcClose_1 (FcClosesv15 p1)),(itr (FcClosesl0) 4 ((FcBegin_1 (FcNew false)),(FcNew true))).2)).2)∧((itr (FcClosesl2) 3 ((FcClose_1 (FcClosesv15 p1)),(itr (FcClosesl0) 4 ((FcBegin_1 (FcNew false)),(FcNew true))).2)).2).out.length + ((itr (FcClosesl2) 3 ((FcClose_1 (FcClosesv15 p1)),(itr (FcClosesl0) 4 ((FcBegin_1 (FcNew false)),(FcNew true))).2)).2).wait.length + p1.length≤1000000000)))∧True)∧(TT∧(TT∧True))))))))))))))
                ([(85,.sc (.b (((FcSend ((itr (FcClosesl2) 3 ((FcClose_1 (FcClosesv15 p1)),(itr (FcClosesl0) 4 ((FcBegin_1 (FcNew false)),(FcNew true))).2)).2) p1):Int) != 8))),(10,.sc (.p 208 0)),(1,.sc (.ro .u8 p1)),(2,.sc (.ro .u8 p2))],[(1906,.vec .row ((FcClosesv22 p1).out)),(1905,.ints .u8 ((FcClosesv22 p1).got.length) ((FcClosesv22 p1).got)),(1904,.ints .u8 ((FcClosesv22 p1).wait.length) ((FcClosesv22 p1).wait)),(208,chC 1904 1905 1906 (FcClosesv22 p1))])
                1952 (by kernel_rfl) rfl (by kernel_rfl) (⟨tt,⟨⟨⟨⟨trivial,⟨(chLens_self _),trivial⟩⟩,(rfl)⟩,trivial⟩,⟨tt,⟨⟨trivial,(h24)⟩,⟨tt,⟨⟨⟨⟨trivial,⟨(chLens_self _),trivial⟩⟩,(rfl)⟩,trivial⟩,⟨tt,⟨tt,⟨⟨trivial,(h25)⟩,⟨tt,⟨tt,⟨⟨⟨tt,⟨(chLens_self _),((by first | (rw [Closes_l1 hC (by assumption)]; exact (send_pre (!true) (by omega)).2.2) | (rw [(Closes_v4 hC (by assumption)).1,(close_is true _).2]; exact (send_pre true (by omega)).2.1) | (rw [Closes_loop]; exact (send_pre true (by omega)).1) | (rw [Closes_l2 hC (by assumption)]; exact (send_pre (!false) (by omega)).2.2) | (rw [(Closes_v14 hC (by assumption)).1,(close_is false _).2]; exact (send_pre false (by omega)).2.1) | (rw [Closes_loop]; exact (send_pre false (by omega)).1)))⟩⟩,trivial⟩,⟨tt,⟨tt,trivial⟩⟩⟩⟩⟩⟩⟩⟩⟩⟩⟩⟩⟩⟩) ?_
              refine Tri.cond (x:=(((FcSend ((itr (FcClosesl2) 3 ((FcClose_1 (FcClosesv15 p1)),(itr (FcClosesl0) 4 ((FcBegin_1 (FcNew false)),(FcNew true))).2)).2) p1):Int) != 8)) (by kernel_rfl) (fun h26 => ?_) (fun h26 => ?_)
              ·
               have h26':=ne_true_i h26
               refine Tri.seq_region [] none [6] [] (TT∧True)
                 ([(6,.sc (.b false))],[])
                 1968 (by kernel_rfl) rfl (by kernel_rfl) (⟨tt,trivial⟩) ?_
               refine Tri.ret ?_
               repeat (first | refine thenP_ret ?_ | refine blkP_ret ?_ | refine countP_ret ?_ | refine joinP_ret ?_ | refine iterP_ret ?_)
               refine endP.conv (r':=⟨.sc (.b false),[]⟩) (by simp only [chC,FcCloses,h1,h2,h3,h5,h19,h20,h21,h22,h24,h25,h26,sel_true,sel_false]) ?_
               exact endP.ret [] TT (by kernel_rfl) (by kernel_rfl) tt
              ·
               have h26':=ne_false_i h26
               refine Tri.skip ?_
               change Tri _ _ _ _ _ _
               refine Tri.seq_region [] none [11,10,1,2] [1971,1970,1969,1968,208] (TT∧(((True∧((chLens ((FcClosesv22 p1).wait.length) ((FcClosesv22 p1).got.length) ((FcClosesv22 p1).out.length) ((FcClosesv22 p1).wait.length) ((FcClosesv22 p1).got.length) (FcClosesv22 p1))∧((FcClosesv22 p1).out.length≤900000000)))∧True)∧(TT∧True)))
                 ([(11,.sc (.sl 1971 0 ((FcClosesv22 p1).got.length) 1 none)),(10,.sc (.p 208 0)),(1,.sc (.ro .u8 p1)),(2,.sc (.ro .u8 p2))],[(1971,.ints .u8 ((FcClosesv22 p1).got.length) (FcRecv_1 (FcClosesv22 p1))),(1970,.vec .row ((FcRecv (FcClosesv22 p1)).out)),(1969,.ints .u8 ((FcRecv (FcClosesv22 p1)).got.length) ((FcRecv (FcClosesv22 p1)).got)),(1968,.ints .u8 ((FcRecv (FcClosesv22 p1)).wait.length) ((FcRecv (FcClosesv22 p1)).wait)),(208,chC 1968 1969 1970 (FcRecv (FcClosesv22 p1)))])
                 2000 (by kernel_rfl) rfl (by kernel_rfl) (⟨tt,⟨⟨⟨trivial,⟨(chLens_self _),((by first | (rw [Closes_v12 hC (by assumption)]; exact (close_pre (!true) (by omega)).2.2) | (rw [Closes_v22 hC (by assumption)]; exact (close_pre (!false) (by omega)).2.2)))⟩⟩,trivial⟩,⟨tt,trivial⟩⟩⟩) ?_
               refine Tri.seq ?_
               refine Tri.split (!(strEq (bytesOf (((FcRecv_1 (FcClosesv22 p1)).drop 0).take ((FcClosesv22 p1).got.length))) (bytesOf ((p1.drop 0).take ((min p1.length 4096) - 0))))) (fun h27 => ?_) (fun h27 => ?_)
               ·
                refine Tri.seq_region [(93,qi ((min p1.length 4096:Nat):Int)),(97,qb true)] (some [0,1,0,0,8,24,60,124,255,511,1023,2047,4095,8191,16383]) [102,10,2] [1970,1969,1968,208] (TT∧(((0 + ((FcClosesv22 p1).got.length)≤(FcClosesv22 p1).got.length)∧True)∧(TT∧(TT∧(TT∧((True∧((minI (p1.length:Int) 4096)=((min p1.length 4096:Nat):Int)))∧((((0:Int)≤0∧(0:Int)≤((min p1.length 4096:Nat):Int)∧((min p1.length 4096:Nat):Int)≤(p1.length:Int))∧True)∧(TT∧(TT∧((True∧((!(strEq (bytesOf (((FcRecv_1 (FcClosesv22 p1)).drop 0).take ((FcClosesv22 p1).got.length))) (bytesOf ((p1.drop 0).take ((min p1.length 4096) - 0)))))=true))∧(TT∧(TT∧(TT∧(TT∧(TT∧True)))))))))))))))
                  ([(102,.sc (.b true)),(10,.sc (.p 208 0)),(2,.sc (.ro .u8 p2))],[(1970,.vec .row ((FcRecv (FcClosesv22 p1)).out)),(1969,.ints .u8 ((FcRecv (FcClosesv22 p1)).got.length) ((FcRecv (FcClosesv22 p1)).got)),(1968,.ints .u8 ((FcRecv (FcClosesv22 p1)).wait.length) ((FcRecv (FcClosesv22 p1)).wait)),(208,chC 1968 1969 1970 (FcRecv (FcClosesv22 p1)))])
                  2240 (by kernel_rfl) rfl (by kernel_rfl) (⟨tt,⟨⟨(by first | omega | (dsimp only; omega) | decide | (simp only [FcClosesv2,FcClosesv3,FcClosesv4,FcClosesv5,FcClosesv10,FcClosesv11,FcClosesv12,FcClosesv13,FcClosesv14,FcClosesv15,FcClosesv20,FcClosesv21,FcClosesv22,FcClosesv23,len_say]; omega)),trivial⟩,⟨tt,⟨tt,⟨tt,⟨⟨trivial,(minI_nat p1.length 4096)⟩,⟨⟨(by first | omega | (dsimp only; omega) | decide | (simp only [FcClosesv2,FcClosesv3,FcClosesv4,FcClosesv5,FcClosesv10,FcClosesv11,FcClosesv12,FcClosesv13,FcClosesv14,FcClosesv15,FcClosesv20,FcClosesv21,FcClosesv22,FcClosesv23,len_say]; omega)),trivial⟩,⟨tt,⟨tt,⟨⟨trivial,(h27)⟩,⟨tt,⟨tt,⟨tt,⟨tt,⟨tt,trivial⟩⟩⟩⟩⟩⟩⟩⟩⟩⟩⟩⟩⟩⟩⟩) ?_
                refine Tri.cond_true (by kernel_rfl) ?_
                refine Tri.seq_region [] none [6] [] (TT∧True)
                  ([(6,.sc (.b false))],[])
                  2256 (by kernel_rfl) rfl (by kernel_rfl) (⟨tt,trivial⟩) ?_
                refine Tri.ret ?_
                repeat (first | refine thenP_ret ?_ | refine blkP_ret ?_ | refine countP_ret ?_ | refine joinP_ret ?_ | refine iterP_ret ?_)
                refine endP.conv (r':=⟨.sc (.b false),[]⟩) (by simp only [chC,FcCloses,h1,h2,h3,h5,h19,h20,h21,h22,h24,h25,h26,h27,sel_true,sel_false]) ?_
                exact endP.ret [] TT (by kernel_rfl) (by kernel_rfl) tt
               ·
                refine Tri.seq_region [(93,qi ((min p1.length 4096:Nat):Int)),(97,qb false)] (some [0,1,0,0,8,24,60,124,255,511,1023,2047,4095,8191,16383]) [102,10,2] [2178,2177,2176,208] (TT∧(((0 + ((FcClosesv22 p1).got.length)≤(FcClosesv22 p1).got.length)∧True)∧(TT∧(TT∧(TT∧((True∧((minI (p1.length:Int) 4096)=((min p1.length 4096:Nat):Int)))∧((((0:Int)≤0∧(0:Int)≤((min p1.length 4096:Nat):Int)∧((min p1.length 4096:Nat):Int)≤(p1.length:Int))∧True)∧(TT∧(TT∧((True∧((!(strEq (bytesOf (((FcRecv_1 (FcClosesv22 p1)).drop 0).take ((FcClosesv22 p1).got.length))) (bytesOf ((p1.drop 0).take ((min p1.length 4096) - 0)))))=false))∧(TT∧(((True∧((chLens ((FcRecv (FcClosesv22 p1)).wait.length) ((FcRecv (FcClosesv22 p1)).got.length) ((FcRecv (FcClosesv22 p1)).out.length) ((FcRecv (FcClosesv22 p1)).wait.length) ((FcRecv (FcClosesv22 p1)).got.length) (FcRecv (FcClosesv22 p1)))∧True))∧True)∧(TT∧(TT∧(TT∧True)))))))))))))))
                  ([(102,.sc (.b (decide (((((FcRecv (FcClosesv22 p1)).out.length:Nat):Int):Int) > 0)))),(10,.sc (.p 208 0)),(2,.sc (.ro .u8 p2))],[(2178,.vec .row ((FcOut (FcRecv (FcClosesv22 p1))).out)),(2177,.ints .u8 ((FcOut (FcRecv (FcClosesv22 p1))).got.length) ((FcOut (FcRecv (FcClosesv22 p1))).got)),(2176,.ints .u8 ((FcOut (FcRecv (FcClosesv22 p1))).wait.length) ((FcOut (FcRecv (FcClosesv22 p1))).wait)),(208,chC 2176 2177 2178 (FcOut (FcRecv (FcClosesv22 p1))))])
                  2240 (by kernel_rfl) rfl (by kernel_rfl) (⟨tt,⟨⟨(by first | omega | (dsimp only; omega) | decide | (simp only [FcClosesv2,FcClosesv3,FcClosesv4,FcClosesv5,FcClosesv10,FcClosesv11,FcClosesv12,FcClosesv13,FcClosesv14,FcClosesv15,FcClosesv20,FcClosesv21,FcClosesv22,FcClosesv23,len_say]; omega)),trivial⟩,⟨tt,⟨tt,⟨tt,⟨⟨trivial,(minI_nat p1.length 4096)⟩,⟨⟨(by first | omega | (dsimp only; omega) | decide | (simp only [FcClosesv2,FcClosesv3,FcClosesv4,FcClosesv5,FcClosesv10,FcClosesv11,FcClosesv12,FcClosesv13,FcClosesv14,FcClosesv15,FcClosesv20,FcClosesv21,FcClosesv22,FcClosesv23,len_say]; omega)),trivial⟩,⟨tt,⟨tt,⟨⟨trivial,(h27)⟩,⟨tt,⟨⟨⟨trivial,⟨(chLens_self _),trivial⟩⟩,trivial⟩,⟨tt,⟨tt,⟨tt,trivial⟩⟩⟩⟩⟩⟩⟩⟩⟩⟩⟩⟩⟩⟩⟩) ?_
                refine Tri.cond (x:=(decide (((((FcRecv (FcClosesv22 p1)).out.length:Nat):Int):Int) > 0))) (by kernel_rfl) (fun h28 => ?_) (fun h28 => ?_)
                ·
                 have h28':=of_decide_eq_true h28
                 refine Tri.seq_region [] none [6] [] (TT∧True)
                   ([(6,.sc (.b false))],[])
                   2256 (by kernel_rfl) rfl (by kernel_rfl) (⟨tt,trivial⟩) ?_
                 refine Tri.ret ?_
                 repeat (first | refine thenP_ret ?_ | refine blkP_ret ?_ | refine countP_ret ?_ | refine joinP_ret ?_ | refine iterP_ret ?_)
                 refine endP.conv (r':=⟨.sc (.b false),[]⟩) (by simp only [chC,FcCloses,h1,h2,h3,h5,h19,h20,h21,h22,h24,h25,h26,h27,h28,sel_true,sel_false]) ?_
                 exact endP.ret [] TT (by kernel_rfl) (by kernel_rfl) tt
                ·
                 have h28':=of_decide_eq_false h28
                 refine Tri.skip ?_
                 change Tri _ _ _ _ _ _
                 refine Tri.seq_region [] none [12,10,2] [2274,2273,2272,208] (TT∧(TT∧(((TT∧((chLens ((FcOut (FcRecv (FcClosesv22 p1))).wait.length) ((FcOut (FcRecv (FcClosesv22 p1))).got.length) ((FcOut (FcRecv (FcClosesv22 p1))).out.length) ((FcOut (FcRecv (FcClosesv22 p1))).wait.length) ((FcOut (FcRecv (FcClosesv22 p1))).got.length) (FcOut (FcRecv (FcClosesv22 p1))))∧(chOk 900000000 (FcOut (FcRecv (FcClosesv22 p1))))))∧True)∧(TT∧True))))
                   ([(12,.sc (.i .i64 (FcTake (FcOut (FcRecv (FcClosesv22 p1))) p2))),(10,.sc (.p 208 0)),(2,.sc (.ro .u8 p2))],[(2274,.vec .row ((FcClosesv23 p1 p2).out)),(2273,.ints .u8 ((FcClosesv23 p1 p2).got.length) ((FcClosesv23 p1 p2).got)),(2272,.ints .u8 ((FcClosesv23 p1 p2).wait.length) ((FcClosesv23 p1 p2).wait)),(208,chC 2272 2273 2274 (FcClosesv23 p1 p2))])
                   2304 (by kernel_rfl) rfl (by kernel_rfl) (⟨tt,⟨tt,⟨⟨⟨tt,⟨(chLens_self _),((by first | (rw [Closes_v12 hC (by assumption)]; exact quiet_ok _ _) | (rw [Closes_v22 hC (by assumption)]; exact quiet_ok _ _)))⟩⟩,trivial⟩,⟨tt,trivial⟩⟩⟩⟩) ?_
                 refine Tri.split (((FcTake (FcOut (FcRecv (FcClosesv22 p1))) p2):Int) == 3) (fun h29 => ?_) (fun h29 => ?_)
                 ·
                  have h29':=eq_true_i h29
                  refine Tri.seq_region [(108,qb true)] none [6] [] (TT∧(TT∧((True∧((((FcTake (FcOut (FcRecv (FcClosesv22 p1))) p2):Int) == 3)=true))∧(TT∧(TT∧(TT∧(TT∧(TT∧(TT∧(TT∧(TT∧(TT∧(TT∧(TT∧(TT∧((((True∧((chLens ((FcClosesv23 p1 p2).wait.length) ((FcClosesv23 p1 p2).got.length) ((FcClosesv23 p1 p2).out.length) ((FcClosesv23 p1 p2).wait.length) ((FcClosesv23 p1 p2).got.length) (FcClosesv23 p1 p2))∧True))∧(([some (chC 2272 2273 2274 (FcClosesv23 p1 p2)),some (.ints .u8 ((FcClosesv23 p1 p2).wait.length) ((FcClosesv23 p1 p2).wait)),some (.ints .u8 ((FcClosesv23 p1 p2).got.length) ((FcClosesv23 p1 p2).got)),some (.vec .row ((FcClosesv23 p1 p2).out))]:List (Option Blk))=[some (chC 2272 2273 2274 (FcClosesv23 p1 p2)),some (.ints .u8 ((FcClosesv23 p1 p2).wait.length) ((FcClosesv23 p1 p2).wait)),some (.ints .u8 ((FcClosesv23 p1 p2).got.length) ((FcClosesv23 p1 p2).got)),some (.vec .row ((FcClosesv23 p1 p2).out))]))∧True)∧(TT∧(TT∧(TT∧True)))))))))))))))))))
                    ([(6,.sc (.b (((FcState (FcClosesv23 p1 p2)):Int) == 3)))],[])
                    2608 (by kernel_rfl) rfl (by kernel_rfl) (⟨tt,⟨tt,⟨⟨trivial,(h29)⟩,⟨tt,⟨tt,⟨tt,⟨tt,⟨tt,⟨tt,⟨tt,⟨tt,⟨tt,⟨tt,⟨tt,⟨tt,⟨⟨⟨⟨trivial,⟨(chLens_self _),trivial⟩⟩,(rfl)⟩,trivial⟩,⟨tt,⟨tt,⟨tt,trivial⟩⟩⟩⟩⟩⟩⟩⟩⟩⟩⟩⟩⟩⟩⟩⟩⟩⟩⟩) ?_
                  refine Tri.ret ?_
                  repeat (first | refine thenP_ret ?_ | refine blkP_ret ?_ | refine countP_ret ?_ | refine joinP_ret ?_ | refine iterP_ret ?_)
                  refine endP.conv (r':=⟨.sc (.b (((FcState (FcClosesv23 p1 p2)):Int) == 3)),[]⟩) (by simp only [chC,FcCloses,h1,h2,h3,h5,h19,h20,h21,h22,h24,h25,h26,h27,h28,h29,sel_true,sel_false]) ?_
                  exact endP.ret [] TT (by kernel_rfl) (by kernel_rfl) tt
                 ·
                  have h29':=eq_false_i h29
                  refine Tri.split (decide (((p2.length:Int):Int) > 0)) (fun h30 => ?_) (fun h30 => ?_)
                  ·
                   have h30':=of_decide_eq_true h30
                   refine Tri.split ((p2.getD 0 0:Int) == 90) (fun h31 => ?_) (fun h31 => ?_)
                   ·
                    have h31':=eq_true_i h31
                    refine Tri.seq_region [(108,qb false),(112,qb true),(119,qb true)] none [6] [] (TT∧(TT∧((True∧((((FcTake (FcOut (FcRecv (FcClosesv22 p1))) p2):Int) == 3)=false))∧(TT∧(TT∧(TT∧((True∧((decide (((p2.length:Int):Int) > 0))=true))∧(TT∧((((0:Int)≤0∧0 < (p2.length:Int))∧True)∧(((0 < p2.length)∧True)∧(TT∧(TT∧(TT∧((True∧(((p2.getD 0 0:Int) == 90)=true))∧(TT∧((((True∧((chLens ((FcClosesv23 p1 p2).wait.length) ((FcClosesv23 p1 p2).got.length) ((FcClosesv23 p1 p2).out.length) ((FcClosesv23 p1 p2).wait.length) ((FcClosesv23 p1 p2).got.length) (FcClosesv23 p1 p2))∧True))∧(([some (chC 2272 2273 2274 (FcClosesv23 p1 p2)),some (.ints .u8 ((FcClosesv23 p1 p2).wait.length) ((FcClosesv23 p1 p2).wait)),some (.ints .u8 ((FcClosesv23 p1 p2).got.length) ((FcClosesv23 p1 p2).got)),some (.vec .row ((FcClosesv23 p1 p2).out))]:List (Option Blk))=[some (chC 2272 2273 2274 (FcClosesv23 p1 p2)),some (.ints .u8 ((FcClosesv23 p1 p2).wait.length) ((FcClosesv23 p1 p2).wait)),some (.ints .u8 ((FcClosesv23 p1 p2).got.length) ((FcClosesv23 p1 p2).got)),some (.vec .row ((FcClosesv23 p1 p2).out))]))∧True)∧(TT∧(TT∧(TT∧True)))))))))))))))))))
                      ([(6,.sc (.b (((FcState (FcClosesv23 p1 p2)):Int) == 3)))],[])
                      2608 (by kernel_rfl) rfl (by kernel_rfl) (⟨tt,⟨tt,⟨⟨trivial,(h29)⟩,⟨tt,⟨tt,⟨tt,⟨⟨trivial,(h30)⟩,⟨tt,⟨⟨(by first | omega | (dsimp only; omega) | decide | (simp only [FcClosesv2,FcClosesv3,FcClosesv4,FcClosesv5,FcClosesv10,FcClosesv11,FcClosesv12,FcClosesv13,FcClosesv14,FcClosesv15,FcClosesv20,FcClosesv21,FcClosesv22,FcClosesv23,len_say]; omega)),trivial⟩,⟨⟨(by first | omega | (dsimp only; omega) | decide | (simp only [FcClosesv2,FcClosesv3,FcClosesv4,FcClosesv5,FcClosesv10,FcClosesv11,FcClosesv12,FcClosesv13,FcClosesv14,FcClosesv15,FcClosesv20,FcClosesv21,FcClosesv22,FcClosesv23,len_say]; omega)),trivial⟩,⟨tt,⟨tt,⟨tt,⟨⟨trivial,(h31)⟩,⟨tt,⟨⟨⟨⟨trivial,⟨(chLens_self _),trivial⟩⟩,(rfl)⟩,trivial⟩,⟨tt,⟨tt,⟨tt,trivial⟩⟩⟩⟩⟩⟩⟩⟩⟩⟩⟩⟩⟩⟩⟩⟩⟩⟩⟩) ?_
                    refine Tri.ret ?_
                    repeat (first | refine thenP_ret ?_ | refine blkP_ret ?_ | refine countP_ret ?_ | refine joinP_ret ?_ | refine iterP_ret ?_)
                    refine endP.conv (r':=⟨.sc (.b (((FcState (FcClosesv23 p1 p2)):Int) == 3)),[]⟩) (by simp only [chC,FcCloses,h1,h2,h3,h5,h19,h20,h21,h22,h24,h25,h26,h27,h28,h29,h30,h31,sel_true,sel_false]) ?_
                    exact endP.ret [] TT (by kernel_rfl) (by kernel_rfl) tt
                   ·
                    have h31':=eq_false_i h31
                    refine Tri.seq_region [(108,qb false),(112,qb true),(119,qb false)] none [6] [] (TT∧(TT∧((True∧((((FcTake (FcOut (FcRecv (FcClosesv22 p1))) p2):Int) == 3)=false))∧(TT∧(TT∧(TT∧((True∧((decide (((p2.length:Int):Int) > 0))=true))∧(TT∧((((0:Int)≤0∧0 < (p2.length:Int))∧True)∧(((0 < p2.length)∧True)∧(TT∧(TT∧(TT∧((True∧(((p2.getD 0 0:Int) == 90)=false))∧(TT∧(TT∧(TT∧(TT∧(TT∧True)))))))))))))))))))
                      ([(6,.sc (.b false))],[])
                      2608 (by kernel_rfl) rfl (by kernel_rfl) (⟨tt,⟨tt,⟨⟨trivial,(h29)⟩,⟨tt,⟨tt,⟨tt,⟨⟨trivial,(h30)⟩,⟨tt,⟨⟨(by first | omega | (dsimp only; omega) | decide | (simp only [FcClosesv2,FcClosesv3,FcClosesv4,FcClosesv5,FcClosesv10,FcClosesv11,FcClosesv12,FcClosesv13,FcClosesv14,FcClosesv15,FcClosesv20,FcClosesv21,FcClosesv22,FcClosesv23,len_say]; omega)),trivial⟩,⟨⟨(by first | omega | (dsimp only; omega) | decide | (simp only [FcClosesv2,FcClosesv3,FcClosesv4,FcClosesv5,FcClosesv10,FcClosesv11,FcClosesv12,FcClosesv13,FcClosesv14,FcClosesv15,FcClosesv20,FcClosesv21,FcClosesv22,FcClosesv23,len_say]; omega)),trivial⟩,⟨tt,⟨tt,⟨tt,⟨⟨trivial,(h31)⟩,⟨tt,⟨tt,⟨tt,⟨tt,⟨tt,trivial⟩⟩⟩⟩⟩⟩⟩⟩⟩⟩⟩⟩⟩⟩⟩⟩⟩⟩⟩) ?_
                    refine Tri.ret ?_
                    repeat (first | refine thenP_ret ?_ | refine blkP_ret ?_ | refine countP_ret ?_ | refine joinP_ret ?_ | refine iterP_ret ?_)
                    refine endP.conv (r':=⟨.sc (.b false),[]⟩) (by simp only [chC,FcCloses,h1,h2,h3,h5,h19,h20,h21,h22,h24,h25,h26,h27,h28,h29,h30,h31,sel_true,sel_false]) ?_
                    exact endP.ret [] TT (by kernel_rfl) (by kernel_rfl) tt
                  ·
                   have h30':=of_decide_eq_false h30
                   refine Tri.seq_region [(108,qb false),(112,qb false)] none [6] [] (TT∧(TT∧((True∧((((FcTake (FcOut (FcRecv (FcClosesv22 p1))) p2):Int) == 3)=false))∧(TT∧(TT∧(TT∧((True∧((decide (((p2.length:Int):Int) > 0))=false))∧(TT∧(TT∧(TT∧(TT∧(TT∧(TT∧(TT∧(TT∧(TT∧(TT∧(TT∧(TT∧True)))))))))))))))))))
                     ([(6,.sc (.b false))],[])
                     2608 (by kernel_rfl) rfl (by kernel_rfl) (⟨tt,⟨tt,⟨⟨trivial,(h29)⟩,⟨tt,⟨tt,⟨tt,⟨⟨trivial,(h30)⟩,⟨tt,⟨tt,⟨tt,⟨tt,⟨tt,⟨tt,⟨tt,⟨tt,⟨tt,⟨tt,⟨tt,⟨tt,trivial⟩⟩⟩⟩⟩⟩⟩⟩⟩⟩⟩⟩⟩⟩⟩⟩⟩⟩⟩) ?_
                   refine Tri.ret ?_
                   repeat (first | refine thenP_ret ?_ | refine blkP_ret ?_ | refine countP_ret ?_ | refine joinP_ret ?_ | refine iterP_ret ?_)
                   refine endP.conv (r':=⟨.sc (.b false),[]⟩) (by simp only [chC,FcCloses,h1,h2,h3,h5,h19,h20,h21,h22,h24,h25,h26,h27,h28,h29,h30,sel_true,sel_false]) ?_
                   exact endP.ret [] TT (by kernel_rfl) (by kernel_rfl) tt
end Go.Vm
set_option linter.unusedVariables false
set_option linter.unusedSimpArgs false
namespace Go.Vm
open Go
theorem closes_end (t : Bool) {d : List Int} (hl : d.length ≤ 3000) (q : List Int) :
    (sel (!(strEq (bytesOf (((FcRecv_1 (quiet t d)).drop 0).take ((quiet t d).got.length))) (bytesOf ((d.drop 0).take ((min d.length 4096) - 0))))) false (sel (decide (((((({quiet t d with got := []} : Ch)).out.length : Nat) : Int) : Int) > 0)) false (sel (((FcTake (FcOut ({quiet t d with got := []} : Ch)) q) : Int) == 3) (((FcState (FcTake_1 (FcOut ({quiet t d with got := []} : Ch)) q)) : Int) == 3) (sel (decide ((((q.length : Nat) : Int) : Int) > 0)) (sel ((q.getD 0 0 : Int) == 90) (((FcState (FcTake_1 (FcOut ({quiet t d with got := []} : Ch)) q)) : Int) == 3) false) false)))) = true := by
  have a1 : bytesOf (((FcRecv_1 (quiet t d)).drop 0).take ((quiet t d).got.length)) = bytesOf ((d.drop 0).take ((min d.length 4096) - 0)) := by
    rw [Nat.sub_zero, Nat.min_eq_left (by omega)]
    rfl
  have a2 : (decide (((((({quiet t d with got := []} : Ch)).out.length : Nat) : Int) : Int) > 0)) = false := decide_eq_false (show ¬ ((0 : Nat) : Int) > 0 by decide)
  obtain ⟨b1, b2⟩ := take_shut (p := FcOut ({quiet t d with got := []} : Ch)) rfl q
  have b3 : (((FcState (FcTake_1 (FcOut ({quiet t d with got := []} : Ch)) q)) : Int) == 3) = true := by
    rw [beq_iff_eq]
    exact b1
  rw [a1, strEq_self, a2, b3]
  show sel false _ (sel false _ _) = _
  rw [sel_false, sel_false]
  rcases b2 with b2 | ⟨b2, b4⟩
  · have e : (((FcTake (FcOut ({quiet t d with got := []} : Ch)) q) : Int) == 3) = true := by rw [b2]; rfl
    rw [e, sel_true]
  · have e1 : (decide ((((q.length : Nat) : Int) : Int) > 0)) = true := decide_eq_true (by omega)
    have e2 : ((q.getD 0 0 : Int) == 90) = true := by rw [b4]; rfl
    rw [e1, e2, sel_true, sel_true]
    cases (((FcTake (FcOut ({quiet t d with got := []} : Ch)) q) : Int) == 3)
    · exact sel_false _ _
    · exact sel_true _ _
theorem closes_true {p0 : Bool} {p1 p2 : List Int} (hC : ∀ x ∈ p1, (0 : Int) ≤ x ∧ x < 256) : FcCloses p0 p1 p2 = true := by
  have n0 : ((0 : Int) != 0) = false := rfl
  have n8 : ((8 : Int) != 8) = false := rfl
  unfold FcCloses
  rw [cfit_true]
  show sel false _ _ = _
  rw [sel_false]
  cases h1 : (decide ((((p1.length : Nat) : Int) : Int) > 3000))
  rotate_left
  · rw [sel_true]
  rw [sel_false]
  cases h2 : (decide ((((p2.length : Nat) : Int) : Int) > 3000))
  rotate_left
  · rw [sel_true]
  rw [sel_false]
  have h1' := of_decide_eq_false h1
  cases p0
  · rw [sel_false, Closes_l2 hC h1 3, Closes_v22 hC h1, (Closes_v14 hC h1).1, (close_is false p1).1, (close_is false p1).2, (Closes_v14 hC h1).2.1, (said_no false p1 p1).1, (said_no false p1 p1).2.2.1, (said_no false p1 p1).2.2.2.1, (said_no false p1 p1).2.2.2.2]
    unfold FcClosesv23
    rw [Closes_v22 hC h1, recv_quiet]
    have e3 : (FcState (bif Nat.beq 3 0 then (said false p1, chO (!false)) else (gone false p1, quiet (!false) p1)).1 != 3) = false := rfl
    have e4 : (FcState (bif Nat.beq 3 0 then (said false p1, chO (!false)) else (gone false p1, quiet (!false) p1)).2 != 3) = false := rfl
    have e5 : (FcSend (bif Nat.beq 3 0 then (said false p1, chO (!false)) else (gone false p1, quiet (!false) p1)).2 p1 != 8) = false := rfl
    rw [n0, n8, e3, e4, e5, sel_false, sel_false, sel_false, sel_false, sel_false, sel_false, sel_false]
    exact closes_end (!false) (by omega) p2
  · rw [sel_true, Closes_l1 hC h1 3, Closes_v12 hC h1, (Closes_v4 hC h1).1, (close_is true p1).1, (close_is true p1).2, (Closes_v4 hC h1).2.1, (said_no true p1 p1).1, (said_no true p1 p1).2.2.1, (said_no true p1 p1).2.2.2.1, (said_no true p1 p1).2.2.2.2]
    unfold FcClosesv13
    rw [Closes_v12 hC h1, recv_quiet]
    have e3 : (FcState (bif Nat.beq 3 0 then (said true p1, chO (!true)) else (gone true p1, quiet (!true) p1)).1 != 3) = false := rfl
    have e4 : (FcState (bif Nat.beq 3 0 then (said true p1, chO (!true)) else (gone true p1, quiet (!true) p1)).2 != 3) = false := rfl
    have e5 : (FcSend (bif Nat.beq 3 0 then (said true p1, chO (!true)) else (gone true p1, quiet (!true) p1)).2 p1 != 8) = false := rfl
    rw [n0, n8, e3, e4, e5, sel_false, sel_false, sel_false, sel_false, sel_false, sel_false, sel_false]
    exact closes_end (!true) (by omega) p2
end Go.Vm
