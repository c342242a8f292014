/-
  DERIVED. GIVEN WITH THE SEED: THE CARDS: each row of YtcomenlmambmfaaGreatDoorRows.lean that lists a variable, with what it lists TIED to the program's text (the seventh form; the later family's looks); each row that meets fmt, with fmt's text TOLD by the authors' own Lean function (tested against real Go, not proved from fmt's source: count such statements apart). THE CARD IS WHAT COUNTS. Prove the row's statement (the work); the ties are given (YtcomenlmambmfaaGreatDoorTie.lean); close each card by the builder's one call (the guide's Derived/Test/ToyasCard.lean, 'card_holds'). Laid BY PROGRAM, IN A SANDBOX (cutbox-door.mjs). By AI agents, Wed Nov 11 2026. No macro, syntax, notation, axiom, sorry.
-/
import Derived.Test.YtcomenlmambmfaaGreatDoorRows
import GoSem.ClaimSeven
namespace Go.Proofs.YtcomenlmambmfaaGreatDoor
namespace Rows

/-- THE TIED CARD OF 'tabularylaw09.AuthWrites'. -/
def authWritesCard : Claim7 := { stood := { row := authWritesRow, standIns := [], harness := (true, "93e31056f0379ab3ac0cca4ed0d246ae9d9d489a252dfeb2cfc4fc6a4111fa6b"), looks := false }, kinds := [], alts := [], laidByText := true, laidKinds := [.data, .data, .data], laidTests := true, laidLooks := .later }
def AuthWritesCardSaid : Prop := Claim7.holds Tryz.pinned (.plain (OpenSpec.ofChange authWritesSpec)) authWritesCard

/-- THE TIED CARD OF 'tabularylaw09.AuthOwn'. -/
def authOwnCard : Claim7 := { stood := { row := authOwnRow, standIns := [], harness := (true, "93e31056f0379ab3ac0cca4ed0d246ae9d9d489a252dfeb2cfc4fc6a4111fa6b"), looks := false }, kinds := [], alts := [], laidByText := true, laidKinds := [.data, .data, .data], laidTests := true, laidLooks := .later }
def AuthOwnCardSaid : Prop := Claim7.holds Tryz.pinned (.plain (OpenSpec.ofChange authOwnSpec)) authOwnCard

/-- THE TIED CARD OF 'tabularylaw09.AuthAsks'. -/
def authAsksCard : Claim7 := { stood := { row := authAsksRow, standIns := [], harness := (true, "93e31056f0379ab3ac0cca4ed0d246ae9d9d489a252dfeb2cfc4fc6a4111fa6b"), looks := false }, kinds := [], alts := [], laidByText := true, laidKinds := [.data, .data, .data], laidTests := true, laidLooks := .later }
def AuthAsksCardSaid : Prop := Claim7.holds Tryz.pinned (.plain (OpenSpec.ofChange authAsksSpec)) authAsksCard

/-- THE TIED CARD OF 'tabularylaw09.AuthTries'. -/
def authTriesCard : Claim7 := { stood := { row := authTriesRow, standIns := [], harness := (true, "93e31056f0379ab3ac0cca4ed0d246ae9d9d489a252dfeb2cfc4fc6a4111fa6b"), looks := false }, kinds := [], alts := [], laidByText := true, laidKinds := [.data, .data, .data], laidTests := true, laidLooks := .later }
def AuthTriesCardSaid : Prop := Claim7.holds Tryz.pinned (.plain (OpenSpec.ofChange authTriesSpec)) authTriesCard

/-- THE TIED CARD OF 'tabularylaw09.AuthComes'. -/
def authComesCard : Claim7 := { stood := { row := authComesRow, standIns := [], harness := (true, "93e31056f0379ab3ac0cca4ed0d246ae9d9d489a252dfeb2cfc4fc6a4111fa6b"), looks := false }, kinds := [], alts := [], laidByText := true, laidKinds := [.data, .data, .data], laidTests := true, laidLooks := .later }
def AuthComesCardSaid : Prop := Claim7.holds Tryz.pinned (.plain (OpenSpec.ofChange authComesSpec)) authComesCard

/-- THE SECOND FORM's CARD OF 'tabularylaw09.AuthWrites'. -/
def authWritesUptoCard : Claim7 := { stood := { row := authWritesUptoRow, standIns := [], harness := (true, "93e31056f0379ab3ac0cca4ed0d246ae9d9d489a252dfeb2cfc4fc6a4111fa6b"), looks := false }, kinds := [], alts := [], laidByText := true, laidKinds := [.data, .data, .data], laidTests := true, laidLooks := .later }
def AuthWritesUptoCardSaid : Prop := Claim7.holds Tryz.pinned (.plain (OpenSpec.upto authWritesSpec)) authWritesUptoCard

/-- THE SECOND FORM's CARD OF 'tabularylaw09.AuthOwn'. -/
def authOwnUptoCard : Claim7 := { stood := { row := authOwnUptoRow, standIns := [], harness := (true, "93e31056f0379ab3ac0cca4ed0d246ae9d9d489a252dfeb2cfc4fc6a4111fa6b"), looks := false }, kinds := [], alts := [], laidByText := true, laidKinds := [.data, .data, .data], laidTests := true, laidLooks := .later }
def AuthOwnUptoCardSaid : Prop := Claim7.holds Tryz.pinned (.plain (OpenSpec.upto authOwnSpec)) authOwnUptoCard

/-- THE SECOND FORM's CARD OF 'tabularylaw09.AuthAsks'. -/
def authAsksUptoCard : Claim7 := { stood := { row := authAsksUptoRow, standIns := [], harness := (true, "93e31056f0379ab3ac0cca4ed0d246ae9d9d489a252dfeb2cfc4fc6a4111fa6b"), looks := false }, kinds := [], alts := [], laidByText := true, laidKinds := [.data, .data, .data], laidTests := true, laidLooks := .later }
def AuthAsksUptoCardSaid : Prop := Claim7.holds Tryz.pinned (.plain (OpenSpec.upto authAsksSpec)) authAsksUptoCard

/-- THE SECOND FORM's CARD OF 'tabularylaw09.AuthTries'. -/
def authTriesUptoCard : Claim7 := { stood := { row := authTriesUptoRow, standIns := [], harness := (true, "93e31056f0379ab3ac0cca4ed0d246ae9d9d489a252dfeb2cfc4fc6a4111fa6b"), looks := false }, kinds := [], alts := [], laidByText := true, laidKinds := [.data, .data, .data], laidTests := true, laidLooks := .later }
def AuthTriesUptoCardSaid : Prop := Claim7.holds Tryz.pinned (.plain (OpenSpec.upto authTriesSpec)) authTriesUptoCard

/-- THE SECOND FORM's CARD OF 'tabularylaw09.AuthComes'. -/
def authComesUptoCard : Claim7 := { stood := { row := authComesUptoRow, standIns := [], harness := (true, "93e31056f0379ab3ac0cca4ed0d246ae9d9d489a252dfeb2cfc4fc6a4111fa6b"), looks := false }, kinds := [], alts := [], laidByText := true, laidKinds := [.data, .data, .data], laidTests := true, laidLooks := .later }
def AuthComesUptoCardSaid : Prop := Claim7.holds Tryz.pinned (.plain (OpenSpec.upto authComesSpec)) authComesUptoCard
end Rows
end Go.Proofs.YtcomenlmambmfaaGreatDoor
