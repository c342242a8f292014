/-
  DERIVED. GIVEN WITH THE SEED: THE CARDS: each row of YtlmojjnpbpcbcaaGreatDoorRows.lean that lists a variable, with what it lists TIED to the program's text (the seventh form; the later family's looks); each row that meets fmt, with fmt's text TOLD by the authors' own Lean function (tested against real Go, not proved from fmt's source: count such statements apart). THE CARD IS WHAT COUNTS. Prove the row's statement (the work); the ties are given (YtlmojjnpbpcbcaaGreatDoorTie.lean); close each card by the builder's one call (the guide's Derived/Test/ToyasCard.lean, 'card_holds'). Laid BY PROGRAM, IN A SANDBOX (cutbox-door.mjs). By AI agents, Wed Nov 11 2026. No macro, syntax, notation, axiom, sorry.
-/
import Derived.Test.YtlmojjnpbpcbcaaGreatDoorRows
import GoSem.ClaimSeven
namespace Go.Proofs.YtlmojjnpbpcbcaaGreatDoor
namespace Rows

/-- THE TIED CARD OF 'tabularylaw08.KexReplies'. -/
def kexRepliesCard : Claim7 := { stood := { row := kexRepliesRow, standIns := [], harness := (true, "e53aad69ad3cc527b05cf4e17ab06a1d2511a53b87076f8129ce527f29eb87f9"), looks := false }, kinds := [], alts := [], laidByText := true, laidKinds := [.data, .data, .data, .data, .pinned], laidTests := true, laidLooks := .later }
def KexRepliesCardSaid : Prop := Claim7.holds Tryz.pinned (.plain (OpenSpec.ofChange kexRepliesSpec)) kexRepliesCard

/-- THE SECOND FORM's CARD OF 'tabularylaw08.KexReplies'. -/
def kexRepliesUptoCard : Claim7 := { stood := { row := kexRepliesUptoRow, standIns := [], harness := (true, "e53aad69ad3cc527b05cf4e17ab06a1d2511a53b87076f8129ce527f29eb87f9"), looks := false }, kinds := [], alts := [], laidByText := true, laidKinds := [.data, .data, .data, .data, .pinned], laidTests := true, laidLooks := .later }
def KexRepliesUptoCardSaid : Prop := Claim7.holds Tryz.pinned (.plain (OpenSpec.upto kexRepliesSpec)) kexRepliesUptoCard
end Rows
end Go.Proofs.YtlmojjnpbpcbcaaGreatDoor
