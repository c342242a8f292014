/- What goes out of a channel, part by part. -/
import Derived.Test.YtfkmfdjdppjijaaPd7
set_option linter.unusedVariables false
set_option linter.unusedSimpArgs false
namespace Go.Vm
open Go
def msg (peer : Nat) (x : List Int) : List Int := 94 :: (be4 peer ++ (be4 x.length ++ (x ++ [])))
def partAt (p : Ch) (j : Nat) : List Int := (p.wait.drop (j * p.most.toNat)).take (min p.most.toNat (flowM p - j * p.most.toNat))
theorem msg_is {z : Ch} {n : Nat} (hp : z.peer = (n : Int)) (hn : n < 4294967296) {x : List Int} (hd : Dg x) (hl : x.length < 4294967296) : FwwTextz (1 + 4) (Fcto z 94) (bytesOf x) = msg n x := by
  rw [(to_is hp hn 94).1, textz_put (k := 1 + 4) (xs := 94 :: be4 n) rfl _ (by rw [size_bytesOf]; exact hl), bytesI_bytesOf hd, size_bytesOf]
  unfold msg
  simp only [List.cons_append, List.append_assoc, List.append_nil]
theorem flow_out {p : Ch} {n : Nat} (h : chFlow p) (hp : p.peer = (n : Int)) (hn : n < 4294967296) (hd : Dg p.wait) : ∀ k, k ≤ flowN p → (itr Fcflowl0 k p).out = p.out ++ (List.range k).map fun j => msg n (partAt p j) := by
  intro k
  induction k with
  | zero => intro _; rw [itr_zero]; simp
  | succ k ih =>
    intro hk
    have h1 := ih (by omega)
    obtain ⟨hJ, hs⟩ := flow_at h k (by omega)
    obtain ⟨g1, g2, g3⟩ := flowJ_go h hJ (by omega)
    obtain ⟨⟨hq, hkM⟩, _⟩ := flowJ_lt' h hJ (of_decide_eq_true g1) (of_decide_eq_true g2) (by cases hc : (itr Fcflowl0 k p).c0; rfl; rw [hc] at g3; cases g3)
    obtain ⟨f1, f2, f3, f4⟩ := flowJ_facts h hJ
    have hM : flowM p = min p.wait.length p.window.toNat := rfl
    generalize hz : itr Fcflowl0 k p = z at *
    obtain ⟨b1, b2, b3, b4, b5⟩ := hJ
    rw [show min (k * p.most.toNat) (flowM p) = k * p.most.toNat by omega] at b1 b2
    have hw : (z.wait.drop 0).take ((min (min z.wait.length z.window.toNat) z.most.toNat) - 0) = partAt p k := by
      unfold partAt
      rw [List.drop_zero, Nat.sub_zero, b1, b3, List.length_drop]
      congr 1
      omega
    rw [itr_succ, hz, List.range_succ, List.map_append, ← List.append_assoc, ← h1]
    show z.out ++ [FwwTextz (1 + 4) (Fcto z 94) (bytesOf ((z.wait.drop 0).take ((min (min z.wait.length z.window.toNat) z.most.toNat) - 0)))] = _
    rw [hw]
    have hx : Dg (partAt p k) := dg_take _ (dg_drop _ hd)
    rw [msg_is (hs.2.2.1.trans hp) hn hx (by
      unfold partAt
      rw [List.length_take, List.length_drop]
      obtain ⟨_, _, _, a6⟩ := h
      omega)]
    rfl

/-- The end that is asked for its subsystem. -/
def subs : List Int := be4 0 ++ (be4 9 ++ [115, 117, 98, 115, 121, 115, 116, 101, 109] ++ ([0] ++ (be4 7 ++ [110, 101, 116, 99, 111, 110, 102])))
def subs1 : List Int := be4 9 ++ [115, 117, 98, 115, 121, 115, 116, 101, 109] ++ ([0] ++ (be4 7 ++ [110, 101, 116, 99, 111, 110, 102]))
def subs2 : List Int := [0] ++ (be4 7 ++ [110, 101, 116, 99, 111, 110, 102])
def subs3 : List Int := be4 7 ++ [110, 101, 116, 99, 111, 110, 102]
theorem subs_join : FwrJoin ([part1 [98] 1 0 1, part1 (FwrU32 0) 4 0 4, part1 (FwrText (⟨#[115, 117, 98, 115, 121, 115, 116, 101, 109]⟩ : ByteArray)) (4 + (⟨#[115, 117, 98, 115, 121, 115, 116, 101, 109]⟩ : ByteArray).size) 0 (4 + (⟨#[115, 117, 98, 115, 121, 115, 116, 101, 109]⟩ : ByteArray).size), part1 [0] 1 0 1, part1 (FwrText (⟨#[110, 101, 116, 99, 111, 110, 102]⟩ : ByteArray)) (4 + (⟨#[110, 101, 116, 99, 111, 110, 102]⟩ : ByteArray).size) 0 (4 + (⟨#[110, 101, 116, 99, 111, 110, 102]⟩ : ByteArray).size)]) = 98 :: subs := by kernel_rfl
theorem subs_reads : (FwU32 subs false = 0 ∧ FwU32_1 subs false = subs1 ∧ FwU32_2 subs false = false) ∧ (strEq (FwText subs1 false) (⟨#[115, 117, 98, 115, 121, 115, 116, 101, 109]⟩ : ByteArray) = true ∧ FwText_1 subs1 false = subs2 ∧ FwText_2 subs1 false = false) ∧
    (FwFlag subs2 false = false ∧ FwFlag_1 subs2 false = subs3 ∧ FwFlag_2 subs2 false = false) ∧ (strEq (FwText subs3 false) (⟨#[110, 101, 116, 99, 111, 110, 102]⟩ : ByteArray) = true ∧ FwText_1 subs3 false = [] ∧ FwText_2 subs3 false = false) :=
  ⟨⟨by kernel_rfl, by kernel_rfl, by kernel_rfl⟩, ⟨by kernel_rfl, by kernel_rfl, by kernel_rfl⟩, ⟨by kernel_rfl, by kernel_rfl, by kernel_rfl⟩, ⟨by kernel_rfl, by kernel_rfl, by kernel_rfl⟩⟩
theorem subs_at {c : Ch} (h1 : c.state = 2) (h2 : c.c1 = false) (h3 : c.server = true) (h4 : c.ready = false) : FcTake_1 c (98 :: subs) = ({c with ready := true} : Ch) := by
  obtain ⟨b1, b2, b3⟩ := byte_read 98 subs
  obtain ⟨⟨u1, u2, u3⟩, ⟨t1, t2, t3⟩, ⟨f1, f2, f3⟩, ⟨n1, n2, n3⟩⟩ := subs_reads
  have hl : ((((98 :: subs).length : Nat) : Int) == 0) = false := rfl
  have k1 : ((98 : Int) == 90) = false := rfl
  have k2 : ((98 : Int) == 91) = false := rfl
  have k3 : ((98 : Int) == 92) = false := rfl
  have k4 : ((98 : Int) == 93) = false := rfl
  have k5 : ((98 : Int) == 94) = false := rfl
  have k6 : ((98 : Int) == 96) = false := rfl
  have k7 : ((98 : Int) == 97) = false := rfl
  have k8 : ((98 : Int) == 98) = true := rfl
  have k9 : ((0 : Int) != 0) = false := rfl
  have c1 : (c.state != 2) = false := by rw [h1]; rfl
  have o1 : FwOk [] false = true := rfl
  have r2 : Fcon_1 c 98 subs1 false = ({c with ready := true} : Ch) := by
    unfold Fcon_1
    simp only [k4, k5, k6, k7, k8, sel_true, sel_false, t1, t2, t3, f1, f2, f3, n1, n2, n3, o1, end_at, Bool.not_true, Bool.not_false, h3, h4]
  unfold FcTake_1 FcTakev2
  simp only [b1, b2, b3, u1, u2, u3, k1, k2, k3, k9, c1, h2]
  rw [hl, sel_false, sel_false, sel_false, sel_false, sel_false, sel_false, sel_false, r2, h2]

def chW (w m : Nat) : Ch := ({server := true, state := 2, peer := 7, window := ((min w 1073741824 : Nat) : Int), most := ((min m 512 : Nat) : Int), room := 4096, wait := [], got := [], ready := true, e0 := false, e1 := false, c0 := false, c1 := false, out := []} : Ch)
theorem chW_ok {w m : Nat} (hm : m ≠ 0) : chOk 0 (chW w m) :=
  ⟨⟨Int.natCast_nonneg _, by show ((min w 1073741824 : Nat) : Int) ≤ _; omega⟩, ⟨Int.natCast_nonneg _, by show ((min m 512 : Nat) : Int) ≤ _; omega⟩, fun _ => by show 0 < ((min m 512 : Nat) : Int); omega, ⟨Nat.le_refl 0, Nat.le_refl 0⟩, fun _ => by show 0 < ((min m 512 : Nat) : Int); omega⟩
end Go.Vm
