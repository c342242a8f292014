/- What is known at the end may be told in other words. -/
import Derived.Test.YtfkmfdjdppjijaaVnZb
set_option linter.unusedVariables false
namespace Go.Vm
open Go
variable {B : Bs} {E : Env} {U : Nat} {s : St} {Q : Post}

def subP (Q : Post) : Post := fun e U s => ∃ U' s', Sub U s U' s' ∧ Q e U' s'
theorem Tri.subP {c : Code} (h : Tri B E c U s (subP Q)) : Tri B E c U s Q := by
  intro hB a w g
  refine wp_mono (h hB a w g) ?_
  rintro e a' w' ⟨U', s', h1, U'', s'', h2, h3⟩
  exact ⟨U'', s'', h2 _ _ _ _ h1, h3⟩
theorem subP_sub {e : Exit} {U' : Nat} {s' : St} (hs : Sub U s U' s') (h : Vm.subP Q e U' s') : Vm.subP Q e U s := by
  obtain ⟨U'', s'', h1, h2⟩ := h
  exact ⟨U'', s'', hs.trans h1, h2⟩
theorem subP_done {e : Exit} (h : Q e U s) : Vm.subP Q e U s := ⟨U, s, .refl U s, h⟩
theorem endP.nret {P : Program} {rs : List ResultVar} {m : Nat} {r : Ret} (ns : Ren) (C : Prop) (h1 : (renOk ns r.bs.length && ren16 ns m) = true) (h3 : finish P rs ns r.bs.length s = some (C, r)) (h4 : C) : endP P rs m r .normal U s := ⟨ns, C, h1, h3, h4⟩
theorem endP.nconv {P : Program} {rs : List ResultVar} {m : Nat} {r r' : Ret} (h : r = r') (h2 : endP P rs m r' .normal U s) : endP P rs m r .normal U s := h ▸ h2
theorem from_ints (k : IntKind) (n : Nat) (xs : List Int) (o : Nat) : (Blk.ints k n xs).from o = .ints k (n - o) (xs.drop o) := by
  show (bif Nat.beq o 0 then _ else _) = _
  cases h : Nat.beq o 0
  · rfl
  · rw [Nat.eq_of_beq_eq_true h]; rfl
theorem Sub.rebaseCi {U U' : Nat} {fr : Fr} {M : Mem} (c j b b' : Nat) {off len es m : Nat} {cap : Option Nat} {kd : IntKind} {n : Nat} {xs : List Int} {l : List Sc} (ho : off = m) (hle : m ≤ n) (hb : (Nat.ble U b' && Nat.blt b' U' && !(Nat.beq c b)) = true) (hc : look c M = some (.cells l)) (hj : l[j]? = some (.sl b off len es cap)) (hM : look b M = some (.ints kd n xs)) :
    Sub U (fr, M) U' (fr, put1 c (.cells (l.set j (.sl b' 0 len es cap))) (put1 b' (.ints kd (n - m) (xs.drop m)) (drop1 b M))) := by
  subst ho
  rw [← from_ints]
  exact Sub.rebaseC c j b b' hle hb hc hj hM
end Go.Vm
