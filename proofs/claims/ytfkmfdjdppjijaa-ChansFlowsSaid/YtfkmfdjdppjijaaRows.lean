/-
  No cell of these rows narrows 'for every input' (looked for: loops, veiled, ifaces, maps, wideKeys, modest, calm, conditions, laid).
  DERIVED. THE GIVEN ROWS OF THIS SEAT. 5 by the template 'for every input the law returns true; each argument reads behind the call as it read before'; 0 by the template 'total and deterministic' (their statements: YtfkmfdjdppjijaaTotals.lean).
  GIVEN WITH THE SEED: the statements are not yours to turn. If you find one false, say at which input.
  Laid BY PROGRAM, IN A SANDBOX (cutbox-rows.mjs): the forced cells as the released guide's own fill.sh prints them over the translation 305462afe7fa0a6e… (all of the seat's roots in one cut). By AI agents, Wed Nov 11 2026. No macro, syntax, notation, axiom, sorry.
-/
import Derived.Test.YtfkmfdjdppjijaaChecked
import GoSem.Claim
import GoSem.ClaimJoined
import GoSem.ClaimMapViews
import Derived.JoinedTies
import Derived.KernelRfl
namespace Go.Proofs.Ytfkmfdjdppjijaa
/- THE CELL 'sum', in the pinned program and in every row, IS THE sha256 OF THE DUMP (.gsa) THAT YtfkmfdjdppjijaaProg.lean LOADS. Nothing in Lean hashes anything: it is a label: what it is worth is what the hold of that sum in a sandbox is worth. -/
noncomputable def Try.pinned : Pinned := { name := "ytfkmfdjdppjijaa", sum := "305462afe7fa0a6eae8ba7824556513603380892baeb1a65d1be77999e210d12", checked := Try.checked }
namespace Rows
def none {H : Type} : Left H := { results := [], args := [] }

/-- 'tabularylaw10.ChansSecond': WHATEVER THE INPUT: true; the input reads as it did. -/
def chansSecondSpec : ChangeSpec := { name := "chansSecond", fn := fun _ => fun
  | [d1, d2, d3] => { results := [.lit (.bool true)], args := [d1, d2, d3] }
  | _ => none }
def chansSecondRow : OpenClaim := { program := "ytfkmfdjdppjijaa", sum := "305462afe7fa0a6eae8ba7824556513603380892baeb1a65d1be77999e210d12", func := "tabulary/tabularylaw10.ChansSecond", spec := "chansSecond", apart := false }
def ChansSecondSaid : Prop := chansSecondRow.holds Try.pinned (OpenSpec.ofChange chansSecondSpec)

/-- ITS FALSE NEIGHBOUR: 'it returns false'. Refute it at one input. -/
def chansSecondWrong : ChangeSpec := { name := "chansSecond", fn := fun _ => fun
  | [d1, d2, d3] => { results := [.lit (.bool false)], args := [d1, d2, d3] }
  | _ => none }
def ChansSecondWrongFalsely : Prop := chansSecondRow.holds Try.pinned (OpenSpec.ofChange chansSecondWrong)

/-- 'tabularylaw10.ChansWindow': WHATEVER THE INPUT: true; the input reads as it did. -/
def chansWindowSpec : ChangeSpec := { name := "chansWindow", fn := fun _ => fun
  | [d1, d2, d3] => { results := [.lit (.bool true)], args := [d1, d2, d3] }
  | _ => none }
def chansWindowRow : OpenClaim := { program := "ytfkmfdjdppjijaa", sum := "305462afe7fa0a6eae8ba7824556513603380892baeb1a65d1be77999e210d12", func := "tabulary/tabularylaw10.ChansWindow", spec := "chansWindow", apart := false }
def ChansWindowSaid : Prop := chansWindowRow.holds Try.pinned (OpenSpec.ofChange chansWindowSpec)

/-- ITS FALSE NEIGHBOUR: 'it returns false'. Refute it at one input. -/
def chansWindowWrong : ChangeSpec := { name := "chansWindow", fn := fun _ => fun
  | [d1, d2, d3] => { results := [.lit (.bool false)], args := [d1, d2, d3] }
  | _ => none }
def ChansWindowWrongFalsely : Prop := chansWindowRow.holds Try.pinned (OpenSpec.ofChange chansWindowWrong)

/-- 'tabularylaw10.ChansFlows': WHATEVER THE INPUT: true; the input reads as it did. -/
def chansFlowsSpec : ChangeSpec := { name := "chansFlows", fn := fun _ => fun
  | [d] => { results := [.lit (.bool true)], args := [d] }
  | _ => none }
def chansFlowsRow : OpenClaim := { program := "ytfkmfdjdppjijaa", sum := "305462afe7fa0a6eae8ba7824556513603380892baeb1a65d1be77999e210d12", func := "tabulary/tabularylaw10.ChansFlows", spec := "chansFlows", apart := false }
def ChansFlowsSaid : Prop := chansFlowsRow.holds Try.pinned (OpenSpec.ofChange chansFlowsSpec)

/-- ITS FALSE NEIGHBOUR: 'it returns false'. Refute it at one input. -/
def chansFlowsWrong : ChangeSpec := { name := "chansFlows", fn := fun _ => fun
  | [d] => { results := [.lit (.bool false)], args := [d] }
  | _ => none }
def ChansFlowsWrongFalsely : Prop := chansFlowsRow.holds Try.pinned (OpenSpec.ofChange chansFlowsWrong)

/-- 'tabularylaw10.ChansCloses': WHATEVER THE INPUT: true; the input reads as it did. -/
def chansClosesSpec : ChangeSpec := { name := "chansCloses", fn := fun _ => fun
  | [d1, d2, d3] => { results := [.lit (.bool true)], args := [d1, d2, d3] }
  | _ => none }
def chansClosesRow : OpenClaim := { program := "ytfkmfdjdppjijaa", sum := "305462afe7fa0a6eae8ba7824556513603380892baeb1a65d1be77999e210d12", func := "tabulary/tabularylaw10.ChansCloses", spec := "chansCloses", apart := false }
def ChansClosesSaid : Prop := chansClosesRow.holds Try.pinned (OpenSpec.ofChange chansClosesSpec)

/-- ITS FALSE NEIGHBOUR: 'it returns false'. Refute it at one input. -/
def chansClosesWrong : ChangeSpec := { name := "chansCloses", fn := fun _ => fun
  | [d1, d2, d3] => { results := [.lit (.bool false)], args := [d1, d2, d3] }
  | _ => none }
def ChansClosesWrongFalsely : Prop := chansClosesRow.holds Try.pinned (OpenSpec.ofChange chansClosesWrong)

/-- 'tabularylaw10.ChansNone': WHATEVER THE INPUT: true; the input reads as it did. -/
def chansNoneSpec : ChangeSpec := { name := "chansNone", fn := fun _ => fun
  | [d] => { results := [.lit (.bool true)], args := [d] }
  | _ => none }
def chansNoneRow : OpenClaim := { program := "ytfkmfdjdppjijaa", sum := "305462afe7fa0a6eae8ba7824556513603380892baeb1a65d1be77999e210d12", func := "tabulary/tabularylaw10.ChansNone", spec := "chansNone", apart := false }
def ChansNoneSaid : Prop := chansNoneRow.holds Try.pinned (OpenSpec.ofChange chansNoneSpec)

/-- ITS FALSE NEIGHBOUR: 'it returns false'. Refute it at one input. -/
def chansNoneWrong : ChangeSpec := { name := "chansNone", fn := fun _ => fun
  | [d] => { results := [.lit (.bool false)], args := [d] }
  | _ => none }
def ChansNoneWrongFalsely : Prop := chansNoneRow.holds Try.pinned (OpenSpec.ofChange chansNoneWrong)

/- THE SECOND FORM. 'bulk': how many values and letters a reading holds, each counted each time it is reached (what is shared counts as often as it is met; a slice's spare places count too). A statement '..UptoSaid' is the law's where the arguments, and the package variables that the reading takes, are together of bulk at most 1048576: NARROWER than '..Said'. Prove '..Said' where nothing that the law and all that it calls make is longer than what came in: it says more and counts as full. Else prove '..UptoSaid'. A law counts once. -/
mutual
def uptoBulk {H : Type} : DataW H → Nat
  | .lit (.string bytes) => bytes.length + 1
  | .lit _ => 1
  | .nil => 1
  | .ptr d => uptoBulk d + 1
  | .slice elems spare => uptoBulkAll elems + uptoBulkAll spare + 1
  | .agg parts => uptoBulkAll parts + 1
  | .iface _ d => uptoBulk d + 1
  | .map entries => uptoBulkEntries entries + 1
  | .held _ => 1
def uptoBulkAll {H : Type} : List (DataW H) → Nat
  | [] => 0
  | d :: r => uptoBulk d + uptoBulkAll r
def uptoBulkEntries {H : Type} : List (Lit × DataW H) → Nat
  | [] => 0
  | x :: r => uptoBulkEntry x + uptoBulkEntries r
def uptoBulkEntry {H : Type} : Lit × DataW H → Nat
  | (.string bytes, d) => bytes.length + uptoBulk d + 1
  | (_, d) => uptoBulk d + 1
 end
def uptoSmall : (H : Type) → List (DataW H) → Bool := fun _ ds => decide (uptoBulkAll ds ≤ 1048576)
def OpenSpec.upto (s : _root_.Go.ChangeSpec) : _root_.Go.OpenSpec := { _root_.Go.OpenSpec.ofChange s with cond := some uptoSmall }

/-- 'tabularylaw10.ChansSecond', WHERE WHAT IT READS IS OF BULK AT MOST 1048576: true; the input reads as it did. -/
def chansSecondUptoRow : OpenClaim := { program := "ytfkmfdjdppjijaa", sum := "305462afe7fa0a6eae8ba7824556513603380892baeb1a65d1be77999e210d12", func := "tabulary/tabularylaw10.ChansSecond", spec := "chansSecond", apart := false, narrowed := true }
def ChansSecondUptoSaid : Prop := chansSecondUptoRow.holds Try.pinned (OpenSpec.upto chansSecondSpec)

/-- 'tabularylaw10.ChansWindow', WHERE WHAT IT READS IS OF BULK AT MOST 1048576: true; the input reads as it did. -/
def chansWindowUptoRow : OpenClaim := { program := "ytfkmfdjdppjijaa", sum := "305462afe7fa0a6eae8ba7824556513603380892baeb1a65d1be77999e210d12", func := "tabulary/tabularylaw10.ChansWindow", spec := "chansWindow", apart := false, narrowed := true }
def ChansWindowUptoSaid : Prop := chansWindowUptoRow.holds Try.pinned (OpenSpec.upto chansWindowSpec)

/-- 'tabularylaw10.ChansFlows', WHERE WHAT IT READS IS OF BULK AT MOST 1048576: true; the input reads as it did. -/
def chansFlowsUptoRow : OpenClaim := { program := "ytfkmfdjdppjijaa", sum := "305462afe7fa0a6eae8ba7824556513603380892baeb1a65d1be77999e210d12", func := "tabulary/tabularylaw10.ChansFlows", spec := "chansFlows", apart := false, narrowed := true }
def ChansFlowsUptoSaid : Prop := chansFlowsUptoRow.holds Try.pinned (OpenSpec.upto chansFlowsSpec)

/-- 'tabularylaw10.ChansCloses', WHERE WHAT IT READS IS OF BULK AT MOST 1048576: true; the input reads as it did. -/
def chansClosesUptoRow : OpenClaim := { program := "ytfkmfdjdppjijaa", sum := "305462afe7fa0a6eae8ba7824556513603380892baeb1a65d1be77999e210d12", func := "tabulary/tabularylaw10.ChansCloses", spec := "chansCloses", apart := false, narrowed := true }
def ChansClosesUptoSaid : Prop := chansClosesUptoRow.holds Try.pinned (OpenSpec.upto chansClosesSpec)

/-- 'tabularylaw10.ChansNone', WHERE WHAT IT READS IS OF BULK AT MOST 1048576: true; the input reads as it did. -/
def chansNoneUptoRow : OpenClaim := { program := "ytfkmfdjdppjijaa", sum := "305462afe7fa0a6eae8ba7824556513603380892baeb1a65d1be77999e210d12", func := "tabulary/tabularylaw10.ChansNone", spec := "chansNone", apart := false, narrowed := true }
def ChansNoneUptoSaid : Prop := chansNoneUptoRow.holds Try.pinned (OpenSpec.upto chansNoneSpec)

end Rows
end Go.Proofs.Ytfkmfdjdppjijaa
