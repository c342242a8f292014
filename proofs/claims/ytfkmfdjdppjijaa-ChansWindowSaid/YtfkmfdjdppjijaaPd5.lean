/- A channel's messages in plain words. -/
import Derived.Test.YtfkmfdjdppjijaaPd1
import Derived.Test.YtfkmfdjdppjijaaPd4
import Derived.Test.YtfkmfdjdppjijaaWk10
set_option linter.unusedVariables false
set_option linter.unusedSimpArgs false
namespace Go.Vm
open Go

theorem u32_put (k : Nat) (xs : List Int) (n : Nat) (h : n < 4294967296) : FwwU32 k xs (n : Int) = xs ++ be4 n := by
  have e := u32o_at k xs n h
  rw [wrap_u32, show ((n : Int) % 4294967296 = n) by omega] at e
  exact e
theorem be4_length (n : Nat) : (be4 n).length = 4 := rfl
theorem u32z_put {k : Nat} {xs : List Int} (hk : k = xs.length) (n : Nat) (h : n < 4294967296) : FwwU32z k xs (n : Int) = xs ++ be4 n := by
  show part1 (FwwU32 k xs (n : Int)) (k + 4) 0 (k + 4) = _
  rw [u32_put k xs n h]
  exact part1_all (by rw [List.length_append, be4_length, hk])
theorem textz_put {k : Nat} {xs : List Int} (hk : k = xs.length) (s : ByteArray) (h : s.size < 4294967296) : FwwTextz k xs s = xs ++ be4 s.size ++ bytesI s := by
  show part1 (FwwText k xs s) (k + 4 + s.size) 0 (k + 4 + s.size) = _
  rw [text_writes k xs s h]
  exact part1_all (by rw [List.length_append, List.length_append, be4_length, bytesI_length, hk])
theorem to_is {p : Ch} {n : Nat} (hp : p.peer = (n : Int)) (h : n < 4294967296) (c : Int) : Fcto p c = c :: be4 n ∧ Fctoz p c = c :: be4 n := by
  have e : FwwU32 1 [c] p.peer = [c] ++ be4 n := by rw [hp]; exact u32_put 1 [c] n h
  refine ⟨e, ?_⟩
  show part1 (FwwU32 1 [c] p.peer) (1 + 4) 0 (1 + 4) = _
  rw [e]
  exact part1_all rfl
theorem byte_read (a : Int) (r : List Int) : FwByte (a :: r) false = a ∧ FwByte_1 (a :: r) false = r ∧ FwByte_2 (a :: r) false = false := by
  have h := byte_at (some (a :: r))
  refine ⟨h.1, ?_, ?_⟩
  · exact h.2.1.trans (by show rb (if 1 ≤ (a :: r).length then some ((a :: r).drop 1) else none) = r; rw [if_pos (by simp)]; rfl)
  · exact h.2.2.trans (by show rbad (if 1 ≤ (a :: r).length then some ((a :: r).drop 1) else none) = false; rw [if_pos (by simp)]; rfl)
theorem takeO_is (p : Ch) {n : Nat} {xs : List Int} (h : xs.length = n) : FcTakeO p n xs = FcTake p xs ∧ FcTakeO_1 p n xs = FcTake_1 p xs := by
  unfold FcTakeO FcTakeO_1 FcTakeOv0 FcTakeOv1 FcTakeOv2
  rw [part1_all h]
  exact ⟨rfl, rfl⟩
theorem takeO_join (p : Ch) (l : List (List Int)) : FcTakeO p (FwrJoinn0 l) (FwrJoin l) = FcTake p (FwrJoin l) ∧ FcTakeO_1 p (FwrJoinn0 l) (FwrJoin l) = FcTake_1 p (FwrJoin l) := takeO_is p rfl
theorem join_is (l : List (List Int)) : FwrJoin l = l.flatten ∧ FwrJoinn0 l = (FwrJoin l).length := ⟨rJoin_is l, rfl⟩

def sess : List Int := [115, 101, 115, 115, 105, 111, 110]
def refuse (id : Nat) : List Int := 92 :: (be4 id ++ be4 3 ++ be4 0 ++ be4 0)
/-- A wish for a channel, as it is told. -/
def wish (id w m : Nat) : List Int := be4 sess.length ++ sess ++ (be4 id ++ (be4 w ++ (be4 m ++ [])))
theorem lit3 (k : Nat) (xs : List Int) : FwwU32 k xs 3 = xs ++ be4 3 := u32_put k xs 3 (by decide)
theorem lit0 (k : Nat) (xs : List Int) : FwwU32 k xs 0 = xs ++ be4 0 := u32_put k xs 0 (by decide)
theorem lit4096 (k : Nat) (xs : List Int) : FwwU32 k xs 4096 = xs ++ be4 4096 := u32_put k xs 4096 (by decide)
theorem lit512z {k : Nat} {xs : List Int} (hk : k = xs.length) : FwwU32z k xs 512 = xs ++ be4 512 := u32z_put hk 512 (by decide)
theorem sess_is : strEq (bytesOf sess) (⟨#[115, 101, 115, 115, 105, 111, 110]⟩ : ByteArray) = true := by kernel_rfl
def opened1 (p : Ch) (id w m : Nat) : Ch := ({p with state := 2, peer := (id : Int), window := (IntKind.wrap .i64 (minI (w : Int) 1073741824)), most := (IntKind.wrap .i64 (minI (m : Int) 512)), room := 4096} : Ch)
theorem wish_reads {id w m : Nat} (h1 : id < 4294967296) (h2 : w < 4294967296) (h3 : m < 4294967296) :
    (FwText (wish id w m) false = bytesOf sess ∧ FwText_1 (wish id w m) false = be4 id ++ (be4 w ++ (be4 m ++ [])) ∧ FwText_2 (wish id w m) false = false) ∧
    (FwU32 (be4 id ++ (be4 w ++ (be4 m ++ []))) false = (id : Int) ∧ FwU32_1 (be4 id ++ (be4 w ++ (be4 m ++ []))) false = be4 w ++ (be4 m ++ []) ∧ FwU32_2 (be4 id ++ (be4 w ++ (be4 m ++ []))) false = false) ∧
    (FwU32 (be4 w ++ (be4 m ++ [])) false = (w : Int) ∧ FwU32_1 (be4 w ++ (be4 m ++ [])) false = be4 m ++ [] ∧ FwU32_2 (be4 w ++ (be4 m ++ [])) false = false) ∧
    (FwU32 (be4 m ++ []) false = (m : Int) ∧ FwU32_1 (be4 m ++ []) false = [] ∧ FwU32_2 (be4 m ++ []) false = false) :=
  ⟨text_read sess _ (by decide), u32_read id h1 _, u32_read w h2 _, u32_read m h3 _⟩
theorem open_at (p : Ch) {id w m : Nat} (h1 : id < 4294967296) (h2 : w < 4294967296) (h3 : m < 4294967296) :
    Fcopen p (wish id w m) false = sel (!p.server) 3 0 ∧
    Fcopen_1 p (wish id w m) false = sel (!p.server) p (sel ((p.state : Int) != 0) (Fcsay p (refuse id)) (sel (((m : Int) : Int) == 0) (Fcsay p (refuse id)) (Fcsay (opened1 p id w m) (91 :: (be4 id ++ be4 0 ++ be4 4096 ++ be4 512))))) := by
  obtain ⟨⟨t1, t2, t3⟩, ⟨u1, u2, u3⟩, ⟨w1, w2, w3⟩, ⟨m1, m2, m3⟩⟩ := wish_reads h1 h2 h3
  have v0 : Fcopenv0 p (wish id w m) false = Fcsay p (refuse id) := by
    unfold Fcopenv0
    simp only [t2, t3, u1]
    rw [u32_put _ _ id h1, lit3, text_writes _ _ _ (by decide), textz_put (by simp only [List.length_append, be4_length, bytesI_length, List.length_cons, List.length_nil]) _ (by decide)]
    rfl
  have v1 : Fcopenv1 p (wish id w m) false = Fcsay (opened1 p id w m) (91 :: (be4 id ++ be4 0 ++ be4 4096 ++ be4 512)) := by
    unfold Fcopenv1
    simp only [t2, t3, u1, u2, u3, w1, w2, w3, m1]
    have e := (to_is (p := opened1 p id w m) (n := id) rfl h1 91).1
    show Fcsay (opened1 p id w m) (FwwU32z _ (FwwU32 _ (FwwU32 _ (Fcto (opened1 p id w m) 91) 0) 4096) 512) = _
    rw [e, lit0, lit4096, lit512z (by simp only [List.length_append, be4_length, List.length_cons])]
    rfl
  unfold Fcopen Fcopen_1
  simp only [t1, t2, t3, u1, u2, u3, w1, w2, w3, m1, m2, m3, v0, v1, end_at, sess_is, Bool.not_true, sel_false]
  first | exact ⟨rfl, rfl⟩ | exact ⟨trivial, rfl⟩ | exact ⟨trivial, trivial⟩ | exact ⟨rfl, trivial⟩
theorem wish_at (p : Ch) {id w m : Nat} (h1 : id < 4294967296) (h2 : w < 4294967296) (h3 : m < 4294967296) :
    FcTake p (90 :: wish id w m) = Fcopen p (wish id w m) false ∧ FcTake_1 p (90 :: wish id w m) = Fcopen_1 p (wish id w m) false := by
  obtain ⟨b1, b2, b3⟩ := byte_read 90 (wish id w m)
  unfold FcTake FcTake_1 FcTakev0
  have hl : ((((90 :: wish id w m).length : Nat) : Int) == 0) = false := by
    rw [beq_eq_false_iff_ne]
    rw [List.length_cons]
    omega
  simp only [b1, b2, b3]
  rw [hl, sel_false, sel_false]
  exact ⟨rfl, rfl⟩
/-- The payload, as the statements build it. -/
theorem wish_join {id w m : Nat} (h1 : id < 4294967296) (h2 : w < 4294967296) (h3 : m < 4294967296) {I W M : Int} (hi : I = id) (hw : W = w) (hm : M = m) :
    FwrJoin ([part1 [90] 1 0 1, part1 (FwrText (⟨#[115, 101, 115, 115, 105, 111, 110]⟩ : ByteArray)) (4 + (⟨#[115, 101, 115, 115, 105, 111, 110]⟩ : ByteArray).size) 0 (4 + (⟨#[115, 101, 115, 115, 105, 111, 110]⟩ : ByteArray).size), part1 (FwrU32 I) 4 0 4, part1 (FwrU32 W) 4 0 4, part1 (FwrU32 M) 4 0 4]) = 90 :: wish id w m := by
  subst hi hw hm
  rw [rJoin_is, rText_at _ (by decide), rU32_at id h1, rU32_at w h2, rU32_at m h3, part1_all (xs := be4 id) (n := 4) rfl, part1_all (xs := be4 w) (n := 4) rfl, part1_all (xs := be4 m) (n := 4) rfl, part1_all (xs := [90]) (n := 1) rfl, part1_all (n := 4 + (⟨#[115, 101, 115, 115, 105, 111, 110]⟩ : ByteArray).size) (by kernel_rfl)]
  rfl
end Go.Vm
