/-
  No cell of these rows narrows 'for every input' (looked for: loops, veiled, ifaces, maps, wideKeys, modest, calm, conditions, laid).
  DERIVED. THE GIVEN ROWS OF THIS SEAT. 11 by the template 'for every input the law returns true; each argument reads behind the call as it read before'; 0 by the template 'total and deterministic' (their statements: YtcfpmiiaicfcnaaTotals.lean).
  GIVEN WITH THE SEED: the statements are not yours to turn. If you find one false, say at which input.
  Laid BY PROGRAM, IN A SANDBOX (cutbox-rows.mjs): the forced cells as the released guide's own fill.sh prints them over the translation a9f8c5cde33e8e2a… (all of the seat's roots in one cut). By AI agents, Wed Nov 11 2026. No macro, syntax, notation, axiom, sorry.
-/
import Derived.Test.YtcfpmiiaicfcnaaChecked
import GoSem.Claim
import GoSem.ClaimJoined
import GoSem.ClaimMapViews
import Derived.JoinedTies
import Derived.KernelRfl
namespace Go.Proofs.Ytcfpmiiaicfcnaa
/- THE CELL 'sum', in the pinned program and in every row, IS THE sha256 OF THE DUMP (.gsa) THAT YtcfpmiiaicfcnaaProg.lean LOADS. Nothing in Lean hashes anything: it is a label: what it is worth is what the hold of that sum in a sandbox is worth. -/
noncomputable def Try.pinned : Pinned := { name := "ytcfpmiiaicfcnaa", sum := "a9f8c5cde33e8e2a0e92576f5c7881b85b46ab1716645e1eeb31ad0b83e397ef", checked := Try.checked }
namespace Rows
def none {H : Type} : Left H := { results := [], args := [] }

/-- 'tabularylaw03.FieldSums': WHATEVER THE INPUT: true; the input reads as it did. -/
def fieldSumsSpec : ChangeSpec := { name := "fieldSums", fn := fun _ => fun
  | [d1, d2, d3] => { results := [.lit (.bool true)], args := [d1, d2, d3] }
  | _ => none }
def fieldSumsRow : OpenClaim := { program := "ytcfpmiiaicfcnaa", sum := "a9f8c5cde33e8e2a0e92576f5c7881b85b46ab1716645e1eeb31ad0b83e397ef", func := "tabulary/tabularylaw03.FieldSums", spec := "fieldSums", inPlace := ["math/bits.Add64"], apart := false }
def FieldSumsSaid : Prop := fieldSumsRow.holds Try.pinned (OpenSpec.ofChange fieldSumsSpec)

/-- ITS FALSE NEIGHBOUR: 'it returns false'. Refute it at one input. -/
def fieldSumsWrong : ChangeSpec := { name := "fieldSums", fn := fun _ => fun
  | [d1, d2, d3] => { results := [.lit (.bool false)], args := [d1, d2, d3] }
  | _ => none }
def FieldSumsWrongFalsely : Prop := fieldSumsRow.holds Try.pinned (OpenSpec.ofChange fieldSumsWrong)

/-- 'tabularylaw03.FieldPowers': WHATEVER THE INPUT: true; the input reads as it did. -/
def fieldPowersSpec : ChangeSpec := { name := "fieldPowers", fn := fun _ => fun
  | [d1, d2] => { results := [.lit (.bool true)], args := [d1, d2] }
  | _ => none }
def fieldPowersRow : OpenClaim := { program := "ytcfpmiiaicfcnaa", sum := "a9f8c5cde33e8e2a0e92576f5c7881b85b46ab1716645e1eeb31ad0b83e397ef", func := "tabulary/tabularylaw03.FieldPowers", spec := "fieldPowers", inPlace := ["math/bits.Add64"], apart := false }
def FieldPowersSaid : Prop := fieldPowersRow.holds Try.pinned (OpenSpec.ofChange fieldPowersSpec)

/-- ITS FALSE NEIGHBOUR: 'it returns false'. Refute it at one input. -/
def fieldPowersWrong : ChangeSpec := { name := "fieldPowers", fn := fun _ => fun
  | [d1, d2] => { results := [.lit (.bool false)], args := [d1, d2] }
  | _ => none }
def FieldPowersWrongFalsely : Prop := fieldPowersRow.holds Try.pinned (OpenSpec.ofChange fieldPowersWrong)

/-- 'tabularylaw03.FieldLaws': WHATEVER THE INPUT: true; the input reads as it did. -/
def fieldLawsSpec : ChangeSpec := { name := "fieldLaws", fn := fun _ => fun
  | [d1, d2] => { results := [.lit (.bool true)], args := [d1, d2] }
  | _ => none }
def fieldLawsRow : OpenClaim := { program := "ytcfpmiiaicfcnaa", sum := "a9f8c5cde33e8e2a0e92576f5c7881b85b46ab1716645e1eeb31ad0b83e397ef", func := "tabulary/tabularylaw03.FieldLaws", spec := "fieldLaws", inPlace := ["math/bits.Add64"], apart := false }
def FieldLawsSaid : Prop := fieldLawsRow.holds Try.pinned (OpenSpec.ofChange fieldLawsSpec)

/-- ITS FALSE NEIGHBOUR: 'it returns false'. Refute it at one input. -/
def fieldLawsWrong : ChangeSpec := { name := "fieldLaws", fn := fun _ => fun
  | [d1, d2] => { results := [.lit (.bool false)], args := [d1, d2] }
  | _ => none }
def FieldLawsWrongFalsely : Prop := fieldLawsRow.holds Try.pinned (OpenSpec.ofChange fieldLawsWrong)

/-- 'tabularylaw03.FieldEdges': WHATEVER THE INPUT: true; the input reads as it did. -/
def fieldEdgesSpec : ChangeSpec := { name := "fieldEdges", fn := fun _ => fun
  | [d1, d2] => { results := [.lit (.bool true)], args := [d1, d2] }
  | _ => none }
def fieldEdgesRow : OpenClaim := { program := "ytcfpmiiaicfcnaa", sum := "a9f8c5cde33e8e2a0e92576f5c7881b85b46ab1716645e1eeb31ad0b83e397ef", func := "tabulary/tabularylaw03.FieldEdges", spec := "fieldEdges", inPlace := ["math/bits.Add64"], apart := false }
def FieldEdgesSaid : Prop := fieldEdgesRow.holds Try.pinned (OpenSpec.ofChange fieldEdgesSpec)

/-- ITS FALSE NEIGHBOUR: 'it returns false'. Refute it at one input. -/
def fieldEdgesWrong : ChangeSpec := { name := "fieldEdges", fn := fun _ => fun
  | [d1, d2] => { results := [.lit (.bool false)], args := [d1, d2] }
  | _ => none }
def FieldEdgesWrongFalsely : Prop := fieldEdgesRow.holds Try.pinned (OpenSpec.ofChange fieldEdgesWrong)

/-- 'tabularylaw03.FieldRoots': WHATEVER THE INPUT: true; the input reads as it did. -/
def fieldRootsSpec : ChangeSpec := { name := "fieldRoots", fn := fun _ => fun
  | [d] => { results := [.lit (.bool true)], args := [d] }
  | _ => none }
def fieldRootsRow : OpenClaim := { program := "ytcfpmiiaicfcnaa", sum := "a9f8c5cde33e8e2a0e92576f5c7881b85b46ab1716645e1eeb31ad0b83e397ef", func := "tabulary/tabularylaw03.FieldRoots", spec := "fieldRoots", inPlace := ["math/bits.Add64"], apart := false }
def FieldRootsSaid : Prop := fieldRootsRow.holds Try.pinned (OpenSpec.ofChange fieldRootsSpec)

/-- ITS FALSE NEIGHBOUR: 'it returns false'. Refute it at one input. -/
def fieldRootsWrong : ChangeSpec := { name := "fieldRoots", fn := fun _ => fun
  | [d] => { results := [.lit (.bool false)], args := [d] }
  | _ => none }
def FieldRootsWrongFalsely : Prop := fieldRootsRow.holds Try.pinned (OpenSpec.ofChange fieldRootsWrong)

/-- 'tabularylaw03.FieldReads': WHATEVER THE INPUT: true; the input reads as it did. -/
def fieldReadsSpec : ChangeSpec := { name := "fieldReads", fn := fun _ => fun
  | [d1, d2] => { results := [.lit (.bool true)], args := [d1, d2] }
  | _ => none }
def fieldReadsRow : OpenClaim := { program := "ytcfpmiiaicfcnaa", sum := "a9f8c5cde33e8e2a0e92576f5c7881b85b46ab1716645e1eeb31ad0b83e397ef", func := "tabulary/tabularylaw03.FieldReads", spec := "fieldReads", inPlace := ["math/bits.Add64"], apart := false }
def FieldReadsSaid : Prop := fieldReadsRow.holds Try.pinned (OpenSpec.ofChange fieldReadsSpec)

/-- ITS FALSE NEIGHBOUR: 'it returns false'. Refute it at one input. -/
def fieldReadsWrong : ChangeSpec := { name := "fieldReads", fn := fun _ => fun
  | [d1, d2] => { results := [.lit (.bool false)], args := [d1, d2] }
  | _ => none }
def FieldReadsWrongFalsely : Prop := fieldReadsRow.holds Try.pinned (OpenSpec.ofChange fieldReadsWrong)

/-- 'tabularylaw04.LadderMults': WHATEVER THE INPUT: true; the input reads as it did. -/
def ladderMultsSpec : ChangeSpec := { name := "ladderMults", fn := fun _ => fun
  | [d1, d2] => { results := [.lit (.bool true)], args := [d1, d2] }
  | _ => none }
def ladderMultsRow : OpenClaim := { program := "ytcfpmiiaicfcnaa", sum := "a9f8c5cde33e8e2a0e92576f5c7881b85b46ab1716645e1eeb31ad0b83e397ef", func := "tabulary/tabularylaw04.LadderMults", spec := "ladderMults", inPlace := ["math/bits.Add64"], apart := false }
def LadderMultsSaid : Prop := ladderMultsRow.holds Try.pinned (OpenSpec.ofChange ladderMultsSpec)

/-- ITS FALSE NEIGHBOUR: 'it returns false'. Refute it at one input. -/
def ladderMultsWrong : ChangeSpec := { name := "ladderMults", fn := fun _ => fun
  | [d1, d2] => { results := [.lit (.bool false)], args := [d1, d2] }
  | _ => none }
def LadderMultsWrongFalsely : Prop := ladderMultsRow.holds Try.pinned (OpenSpec.ofChange ladderMultsWrong)

/-- 'tabularylaw04.LadderShares': WHATEVER THE INPUT: true; the input reads as it did. -/
def ladderSharesSpec : ChangeSpec := { name := "ladderShares", fn := fun _ => fun
  | [d1, d2, d3] => { results := [.lit (.bool true)], args := [d1, d2, d3] }
  | _ => none }
def ladderSharesRow : OpenClaim := { program := "ytcfpmiiaicfcnaa", sum := "a9f8c5cde33e8e2a0e92576f5c7881b85b46ab1716645e1eeb31ad0b83e397ef", func := "tabulary/tabularylaw04.LadderShares", spec := "ladderShares", inPlace := ["math/bits.Add64"], apart := false }
def LadderSharesSaid : Prop := ladderSharesRow.holds Try.pinned (OpenSpec.ofChange ladderSharesSpec)

/-- ITS FALSE NEIGHBOUR: 'it returns false'. Refute it at one input. -/
def ladderSharesWrong : ChangeSpec := { name := "ladderShares", fn := fun _ => fun
  | [d1, d2, d3] => { results := [.lit (.bool false)], args := [d1, d2, d3] }
  | _ => none }
def LadderSharesWrongFalsely : Prop := ladderSharesRow.holds Try.pinned (OpenSpec.ofChange ladderSharesWrong)

/-- 'tabularylaw04.LadderTrims': WHATEVER THE INPUT: true; the input reads as it did. -/
def ladderTrimsSpec : ChangeSpec := { name := "ladderTrims", fn := fun _ => fun
  | [d1, d2] => { results := [.lit (.bool true)], args := [d1, d2] }
  | _ => none }
def ladderTrimsRow : OpenClaim := { program := "ytcfpmiiaicfcnaa", sum := "a9f8c5cde33e8e2a0e92576f5c7881b85b46ab1716645e1eeb31ad0b83e397ef", func := "tabulary/tabularylaw04.LadderTrims", spec := "ladderTrims", inPlace := ["math/bits.Add64"], apart := false }
def LadderTrimsSaid : Prop := ladderTrimsRow.holds Try.pinned (OpenSpec.ofChange ladderTrimsSpec)

/-- ITS FALSE NEIGHBOUR: 'it returns false'. Refute it at one input. -/
def ladderTrimsWrong : ChangeSpec := { name := "ladderTrims", fn := fun _ => fun
  | [d1, d2] => { results := [.lit (.bool false)], args := [d1, d2] }
  | _ => none }
def LadderTrimsWrongFalsely : Prop := ladderTrimsRow.holds Try.pinned (OpenSpec.ofChange ladderTrimsWrong)

/-- 'tabularylaw04.LadderOrder': WHATEVER THE INPUT: true; the input reads as it did. -/
def ladderOrderSpec : ChangeSpec := { name := "ladderOrder", fn := fun _ => fun
  | [d1, d2, d3] => { results := [.lit (.bool true)], args := [d1, d2, d3] }
  | _ => none }
def ladderOrderRow : OpenClaim := { program := "ytcfpmiiaicfcnaa", sum := "a9f8c5cde33e8e2a0e92576f5c7881b85b46ab1716645e1eeb31ad0b83e397ef", func := "tabulary/tabularylaw04.LadderOrder", spec := "ladderOrder", inPlace := ["math/bits.Add64"], apart := false }
def LadderOrderSaid : Prop := ladderOrderRow.holds Try.pinned (OpenSpec.ofChange ladderOrderSpec)

/-- ITS FALSE NEIGHBOUR: 'it returns false'. Refute it at one input. -/
def ladderOrderWrong : ChangeSpec := { name := "ladderOrder", fn := fun _ => fun
  | [d1, d2, d3] => { results := [.lit (.bool false)], args := [d1, d2, d3] }
  | _ => none }
def LadderOrderWrongFalsely : Prop := ladderOrderRow.holds Try.pinned (OpenSpec.ofChange ladderOrderWrong)

/-- 'tabularylaw04.LadderSmall': WHATEVER THE INPUT: true; the input reads as it did. -/
def ladderSmallSpec : ChangeSpec := { name := "ladderSmall", fn := fun _ => fun
  | [d1, d2] => { results := [.lit (.bool true)], args := [d1, d2] }
  | _ => none }
def ladderSmallRow : OpenClaim := { program := "ytcfpmiiaicfcnaa", sum := "a9f8c5cde33e8e2a0e92576f5c7881b85b46ab1716645e1eeb31ad0b83e397ef", func := "tabulary/tabularylaw04.LadderSmall", spec := "ladderSmall", inPlace := ["math/bits.Add64"], apart := false }
def LadderSmallSaid : Prop := ladderSmallRow.holds Try.pinned (OpenSpec.ofChange ladderSmallSpec)

/-- ITS FALSE NEIGHBOUR: 'it returns false'. Refute it at one input. -/
def ladderSmallWrong : ChangeSpec := { name := "ladderSmall", fn := fun _ => fun
  | [d1, d2] => { results := [.lit (.bool false)], args := [d1, d2] }
  | _ => none }
def LadderSmallWrongFalsely : Prop := ladderSmallRow.holds Try.pinned (OpenSpec.ofChange ladderSmallWrong)

/- THE SECOND FORM. 'bulk': how many values and letters a reading holds, each counted each time it is reached (what is shared counts as often as it is met; a slice's spare places count too). A statement '..UptoSaid' is the law's where the arguments, and the package variables that the reading takes, are together of bulk at most 1048576: NARROWER than '..Said'. Prove '..Said' where nothing that the law and all that it calls make is longer than what came in: it says more and counts as full. Else prove '..UptoSaid'. A law counts once. -/
mutual
def uptoBulk {H : Type} : DataW H → Nat
  | .lit (.string bytes) => bytes.length + 1
  | .lit _ => 1
  | .nil => 1
  | .ptr d => uptoBulk d + 1
  | .slice elems spare => uptoBulkAll elems + uptoBulkAll spare + 1
  | .agg parts => uptoBulkAll parts + 1
  | .iface _ d => uptoBulk d + 1
  | .map entries => uptoBulkEntries entries + 1
  | .held _ => 1
def uptoBulkAll {H : Type} : List (DataW H) → Nat
  | [] => 0
  | d :: r => uptoBulk d + uptoBulkAll r
def uptoBulkEntries {H : Type} : List (Lit × DataW H) → Nat
  | [] => 0
  | x :: r => uptoBulkEntry x + uptoBulkEntries r
def uptoBulkEntry {H : Type} : Lit × DataW H → Nat
  | (.string bytes, d) => bytes.length + uptoBulk d + 1
  | (_, d) => uptoBulk d + 1
 end
def uptoSmall : (H : Type) → List (DataW H) → Bool := fun _ ds => decide (uptoBulkAll ds ≤ 1048576)
def OpenSpec.upto (s : _root_.Go.ChangeSpec) : _root_.Go.OpenSpec := { _root_.Go.OpenSpec.ofChange s with cond := some uptoSmall }

/-- 'tabularylaw03.FieldSums', WHERE WHAT IT READS IS OF BULK AT MOST 1048576: true; the input reads as it did. -/
def fieldSumsUptoRow : OpenClaim := { program := "ytcfpmiiaicfcnaa", sum := "a9f8c5cde33e8e2a0e92576f5c7881b85b46ab1716645e1eeb31ad0b83e397ef", func := "tabulary/tabularylaw03.FieldSums", spec := "fieldSums", inPlace := ["math/bits.Add64"], apart := false, narrowed := true }
def FieldSumsUptoSaid : Prop := fieldSumsUptoRow.holds Try.pinned (OpenSpec.upto fieldSumsSpec)

/-- 'tabularylaw03.FieldPowers', WHERE WHAT IT READS IS OF BULK AT MOST 1048576: true; the input reads as it did. -/
def fieldPowersUptoRow : OpenClaim := { program := "ytcfpmiiaicfcnaa", sum := "a9f8c5cde33e8e2a0e92576f5c7881b85b46ab1716645e1eeb31ad0b83e397ef", func := "tabulary/tabularylaw03.FieldPowers", spec := "fieldPowers", inPlace := ["math/bits.Add64"], apart := false, narrowed := true }
def FieldPowersUptoSaid : Prop := fieldPowersUptoRow.holds Try.pinned (OpenSpec.upto fieldPowersSpec)

/-- 'tabularylaw03.FieldLaws', WHERE WHAT IT READS IS OF BULK AT MOST 1048576: true; the input reads as it did. -/
def fieldLawsUptoRow : OpenClaim := { program := "ytcfpmiiaicfcnaa", sum := "a9f8c5cde33e8e2a0e92576f5c7881b85b46ab1716645e1eeb31ad0b83e397ef", func := "tabulary/tabularylaw03.FieldLaws", spec := "fieldLaws", inPlace := ["math/bits.Add64"], apart := false, narrowed := true }
def FieldLawsUptoSaid : Prop := fieldLawsUptoRow.holds Try.pinned (OpenSpec.upto fieldLawsSpec)

/-- 'tabularylaw03.FieldEdges', WHERE WHAT IT READS IS OF BULK AT MOST 1048576: true; the input reads as it did. -/
def fieldEdgesUptoRow : OpenClaim := { program := "ytcfpmiiaicfcnaa", sum := "a9f8c5cde33e8e2a0e92576f5c7881b85b46ab1716645e1eeb31ad0b83e397ef", func := "tabulary/tabularylaw03.FieldEdges", spec := "fieldEdges", inPlace := ["math/bits.Add64"], apart := false, narrowed := true }
def FieldEdgesUptoSaid : Prop := fieldEdgesUptoRow.holds Try.pinned (OpenSpec.upto fieldEdgesSpec)

/-- 'tabularylaw03.FieldRoots', WHERE WHAT IT READS IS OF BULK AT MOST 1048576: true; the input reads as it did. -/
def fieldRootsUptoRow : OpenClaim := { program := "ytcfpmiiaicfcnaa", sum := "a9f8c5cde33e8e2a0e92576f5c7881b85b46ab1716645e1eeb31ad0b83e397ef", func := "tabulary/tabularylaw03.FieldRoots", spec := "fieldRoots", inPlace := ["math/bits.Add64"], apart := false, narrowed := true }
def FieldRootsUptoSaid : Prop := fieldRootsUptoRow.holds Try.pinned (OpenSpec.upto fieldRootsSpec)

/-- 'tabularylaw03.FieldReads', WHERE WHAT IT READS IS OF BULK AT MOST 1048576: true; the input reads as it did. -/
def fieldReadsUptoRow : OpenClaim := { program := "ytcfpmiiaicfcnaa", sum := "a9f8c5cde33e8e2a0e92576f5c7881b85b46ab1716645e1eeb31ad0b83e397ef", func := "tabulary/tabularylaw03.FieldReads", spec := "fieldReads", inPlace := ["math/bits.Add64"], apart := false, narrowed := true }
def FieldReadsUptoSaid : Prop := fieldReadsUptoRow.holds Try.pinned (OpenSpec.upto fieldReadsSpec)

/-- 'tabularylaw04.LadderMults', WHERE WHAT IT READS IS OF BULK AT MOST 1048576: true; the input reads as it did. -/
def ladderMultsUptoRow : OpenClaim := { program := "ytcfpmiiaicfcnaa", sum := "a9f8c5cde33e8e2a0e92576f5c7881b85b46ab1716645e1eeb31ad0b83e397ef", func := "tabulary/tabularylaw04.LadderMults", spec := "ladderMults", inPlace := ["math/bits.Add64"], apart := false, narrowed := true }
def LadderMultsUptoSaid : Prop := ladderMultsUptoRow.holds Try.pinned (OpenSpec.upto ladderMultsSpec)

/-- 'tabularylaw04.LadderShares', WHERE WHAT IT READS IS OF BULK AT MOST 1048576: true; the input reads as it did. -/
def ladderSharesUptoRow : OpenClaim := { program := "ytcfpmiiaicfcnaa", sum := "a9f8c5cde33e8e2a0e92576f5c7881b85b46ab1716645e1eeb31ad0b83e397ef", func := "tabulary/tabularylaw04.LadderShares", spec := "ladderShares", inPlace := ["math/bits.Add64"], apart := false, narrowed := true }
def LadderSharesUptoSaid : Prop := ladderSharesUptoRow.holds Try.pinned (OpenSpec.upto ladderSharesSpec)

/-- 'tabularylaw04.LadderTrims', WHERE WHAT IT READS IS OF BULK AT MOST 1048576: true; the input reads as it did. -/
def ladderTrimsUptoRow : OpenClaim := { program := "ytcfpmiiaicfcnaa", sum := "a9f8c5cde33e8e2a0e92576f5c7881b85b46ab1716645e1eeb31ad0b83e397ef", func := "tabulary/tabularylaw04.LadderTrims", spec := "ladderTrims", inPlace := ["math/bits.Add64"], apart := false, narrowed := true }
def LadderTrimsUptoSaid : Prop := ladderTrimsUptoRow.holds Try.pinned (OpenSpec.upto ladderTrimsSpec)

/-- 'tabularylaw04.LadderOrder', WHERE WHAT IT READS IS OF BULK AT MOST 1048576: true; the input reads as it did. -/
def ladderOrderUptoRow : OpenClaim := { program := "ytcfpmiiaicfcnaa", sum := "a9f8c5cde33e8e2a0e92576f5c7881b85b46ab1716645e1eeb31ad0b83e397ef", func := "tabulary/tabularylaw04.LadderOrder", spec := "ladderOrder", inPlace := ["math/bits.Add64"], apart := false, narrowed := true }
def LadderOrderUptoSaid : Prop := ladderOrderUptoRow.holds Try.pinned (OpenSpec.upto ladderOrderSpec)

/-- 'tabularylaw04.LadderSmall', WHERE WHAT IT READS IS OF BULK AT MOST 1048576: true; the input reads as it did. -/
def ladderSmallUptoRow : OpenClaim := { program := "ytcfpmiiaicfcnaa", sum := "a9f8c5cde33e8e2a0e92576f5c7881b85b46ab1716645e1eeb31ad0b83e397ef", func := "tabulary/tabularylaw04.LadderSmall", spec := "ladderSmall", inPlace := ["math/bits.Add64"], apart := false, narrowed := true }
def LadderSmallUptoSaid : Prop := ladderSmallUptoRow.holds Try.pinned (OpenSpec.upto ladderSmallSpec)

end Rows
end Go.Proofs.Ytcfpmiiaicfcnaa
