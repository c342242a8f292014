/-
  DERIVED. GIVEN WITH THE SEED: THE CARDS: each row of YtnbpdjjcilhjoaaDoorRows.lean that lists a variable, with what it lists TIED to the program's text (the seventh form; the later family's looks); each row that meets fmt, with fmt's text TOLD by the authors' own Lean function (tested against real Go, not proved from fmt's source: count such statements apart). THE CARD IS WHAT COUNTS. Prove the row's statement (the work); the ties are given (YtnbpdjjcilhjoaaDoorTie.lean); close each card by the builder's one call (the guide's Derived/Test/ToyasCard.lean, 'card_holds'). Laid BY PROGRAM, IN A SANDBOX (cutbox-door.mjs). By AI agents, Wed Nov 11 2026. No macro, syntax, notation, axiom, sorry.
-/
import Derived.Test.YtnbpdjjcilhjoaaDoorRows
import GoSem.ClaimSeven
namespace Go.Proofs.YtnbpdjjcilhjoaaDoor
namespace Rows

/-- THE TIED CARD OF 'tabularylaw05.TwistSigns'. -/
def twistSignsCard : Claim7 := { stood := { row := twistSignsRow, standIns := [], harness := (true, "cac9225015ccd7645b5e63591a693066defc7280355695d15fa75252b8d8690f"), looks := false }, kinds := [], alts := [], laidByText := true, laidKinds := [.data, .data, .data], laidTests := true, laidLooks := .later }
def TwistSignsCardSaid : Prop := Claim7.holds Tryd.pinned (.plain (OpenSpec.ofChange twistSignsSpec)) twistSignsCard

/-- THE TIED CARD OF 'tabularylaw05.TwistBack'. -/
def twistBackCard : Claim7 := { stood := { row := twistBackRow, standIns := [], harness := (true, "cac9225015ccd7645b5e63591a693066defc7280355695d15fa75252b8d8690f"), looks := false }, kinds := [], alts := [], laidByText := true, laidKinds := [.data, .data, .data], laidTests := true, laidLooks := .later }
def TwistBackCardSaid : Prop := Claim7.holds Tryd.pinned (.plain (OpenSpec.ofChange twistBackSpec)) twistBackCard

/-- THE TIED CARD OF 'tabularylaw05.TwistVerifies'. -/
def twistVerifiesCard : Claim7 := { stood := { row := twistVerifiesRow, standIns := [], harness := (true, "cac9225015ccd7645b5e63591a693066defc7280355695d15fa75252b8d8690f"), looks := false }, kinds := [], alts := [], laidByText := true, laidKinds := [.data, .data, .data], laidTests := true, laidLooks := .later }
def TwistVerifiesCardSaid : Prop := Claim7.holds Tryd.pinned (.plain (OpenSpec.ofChange twistVerifiesSpec)) twistVerifiesCard

/-- THE TIED CARD OF 'tabularylaw05.TwistShifts'. -/
def twistShiftsCard : Claim7 := { stood := { row := twistShiftsRow, standIns := [], harness := (true, "cac9225015ccd7645b5e63591a693066defc7280355695d15fa75252b8d8690f"), looks := false }, kinds := [], alts := [], laidByText := true, laidKinds := [.data, .data, .data], laidTests := true, laidLooks := .later }
def TwistShiftsCardSaid : Prop := Claim7.holds Tryd.pinned (.plain (OpenSpec.ofChange twistShiftsSpec)) twistShiftsCard

/-- THE TIED CARD OF 'tabularylaw05.TwistOwn'. -/
def twistOwnCard : Claim7 := { stood := { row := twistOwnRow, standIns := [], harness := (true, "cac9225015ccd7645b5e63591a693066defc7280355695d15fa75252b8d8690f"), looks := false }, kinds := [], alts := [], laidByText := true, laidKinds := [.data, .data, .data], laidTests := true, laidLooks := .later }
def TwistOwnCardSaid : Prop := Claim7.holds Tryd.pinned (.plain (OpenSpec.ofChange twistOwnSpec)) twistOwnCard

/-- THE SECOND FORM's CARD OF 'tabularylaw05.TwistSigns'. -/
def twistSignsUptoCard : Claim7 := { stood := { row := twistSignsUptoRow, standIns := [], harness := (true, "cac9225015ccd7645b5e63591a693066defc7280355695d15fa75252b8d8690f"), looks := false }, kinds := [], alts := [], laidByText := true, laidKinds := [.data, .data, .data], laidTests := true, laidLooks := .later }
def TwistSignsUptoCardSaid : Prop := Claim7.holds Tryd.pinned (.plain (OpenSpec.upto twistSignsSpec)) twistSignsUptoCard

/-- THE SECOND FORM's CARD OF 'tabularylaw05.TwistBack'. -/
def twistBackUptoCard : Claim7 := { stood := { row := twistBackUptoRow, standIns := [], harness := (true, "cac9225015ccd7645b5e63591a693066defc7280355695d15fa75252b8d8690f"), looks := false }, kinds := [], alts := [], laidByText := true, laidKinds := [.data, .data, .data], laidTests := true, laidLooks := .later }
def TwistBackUptoCardSaid : Prop := Claim7.holds Tryd.pinned (.plain (OpenSpec.upto twistBackSpec)) twistBackUptoCard

/-- THE SECOND FORM's CARD OF 'tabularylaw05.TwistVerifies'. -/
def twistVerifiesUptoCard : Claim7 := { stood := { row := twistVerifiesUptoRow, standIns := [], harness := (true, "cac9225015ccd7645b5e63591a693066defc7280355695d15fa75252b8d8690f"), looks := false }, kinds := [], alts := [], laidByText := true, laidKinds := [.data, .data, .data], laidTests := true, laidLooks := .later }
def TwistVerifiesUptoCardSaid : Prop := Claim7.holds Tryd.pinned (.plain (OpenSpec.upto twistVerifiesSpec)) twistVerifiesUptoCard

/-- THE SECOND FORM's CARD OF 'tabularylaw05.TwistShifts'. -/
def twistShiftsUptoCard : Claim7 := { stood := { row := twistShiftsUptoRow, standIns := [], harness := (true, "cac9225015ccd7645b5e63591a693066defc7280355695d15fa75252b8d8690f"), looks := false }, kinds := [], alts := [], laidByText := true, laidKinds := [.data, .data, .data], laidTests := true, laidLooks := .later }
def TwistShiftsUptoCardSaid : Prop := Claim7.holds Tryd.pinned (.plain (OpenSpec.upto twistShiftsSpec)) twistShiftsUptoCard

/-- THE SECOND FORM's CARD OF 'tabularylaw05.TwistOwn'. -/
def twistOwnUptoCard : Claim7 := { stood := { row := twistOwnUptoRow, standIns := [], harness := (true, "cac9225015ccd7645b5e63591a693066defc7280355695d15fa75252b8d8690f"), looks := false }, kinds := [], alts := [], laidByText := true, laidKinds := [.data, .data, .data], laidTests := true, laidLooks := .later }
def TwistOwnUptoCardSaid : Prop := Claim7.holds Tryd.pinned (.plain (OpenSpec.upto twistOwnSpec)) twistOwnUptoCard
end Rows
end Go.Proofs.YtnbpdjjcilhjoaaDoor
