/-
  DERIVED. GIVEN WITH THE SEED: THE CARDS: each row of YtlmojjnpbpcbcaaDoorRows.lean that lists a variable, with what it lists TIED to the program's text (the seventh form; the later family's looks); each row that meets fmt, with fmt's text TOLD by the authors' own Lean function (tested against real Go, not proved from fmt's source: count such statements apart). THE CARD IS WHAT COUNTS. Prove the row's statement (the work); the ties are given (YtlmojjnpbpcbcaaDoorTie.lean); close each card by the builder's one call (the guide's Derived/Test/ToyasCard.lean, 'card_holds'). Laid BY PROGRAM, IN A SANDBOX (cutbox-door.mjs). By AI agents, Wed Nov 11 2026. No macro, syntax, notation, axiom, sorry.
-/
import Derived.Test.YtlmojjnpbpcbcaaDoorRows
import GoSem.ClaimSeven
namespace Go.Proofs.YtlmojjnpbpcbcaaDoor
namespace Rows

/-- THE TIED CARD OF 'tabularylaw08.KexOffers'. -/
def kexOffersCard : Claim7 := { stood := { row := kexOffersRow, standIns := [], harness := (true, "05ff524d11f7329c52b93a5f550ddbff2cd480ec760baca99b04757ec8dd6918"), looks := false }, kinds := [], alts := [], laidByText := true, laidKinds := [.data, .data, .data, .pinned], laidTests := true, laidLooks := .later }
def KexOffersCardSaid : Prop := Claim7.holds Tryd.pinned (.plain (OpenSpec.ofChange kexOffersSpec)) kexOffersCard

/-- THE TIED CARD OF 'tabularylaw08.KexAgrees'. -/
def kexAgreesCard : Claim7 := { stood := { row := kexAgreesRow, standIns := [], harness := (true, "05ff524d11f7329c52b93a5f550ddbff2cd480ec760baca99b04757ec8dd6918"), looks := false }, kinds := [], alts := [], laidByText := true, laidKinds := [.data, .data, .data, .pinned], laidTests := true, laidLooks := .later }
def KexAgreesCardSaid : Prop := Claim7.holds Tryd.pinned (.plain (OpenSpec.ofChange kexAgreesSpec)) kexAgreesCard

/-- THE TIED CARD OF 'tabularylaw08.KexFirst'. -/
def kexFirstCard : Claim7 := { stood := { row := kexFirstRow, standIns := [], harness := (true, "05ff524d11f7329c52b93a5f550ddbff2cd480ec760baca99b04757ec8dd6918"), looks := false }, kinds := [], alts := [], laidByText := true, laidKinds := [.data, .data, .data, .pinned], laidTests := true, laidLooks := .later }
def KexFirstCardSaid : Prop := Claim7.holds Tryd.pinned (.plain (OpenSpec.ofChange kexFirstSpec)) kexFirstCard

/-- THE TIED CARD OF 'tabularylaw08.KexBlobs'. -/
def kexBlobsCard : Claim7 := { stood := { row := kexBlobsRow, standIns := [], harness := (true, "05ff524d11f7329c52b93a5f550ddbff2cd480ec760baca99b04757ec8dd6918"), looks := false }, kinds := [], alts := [], laidByText := true, laidKinds := [.data, .data, .data, .pinned], laidTests := true, laidLooks := .later }
def KexBlobsCardSaid : Prop := Claim7.holds Tryd.pinned (.plain (OpenSpec.ofChange kexBlobsSpec)) kexBlobsCard

/-- THE TIED CARD OF 'tabularylaw08.KexHashes'. -/
def kexHashesCard : Claim7 := { stood := { row := kexHashesRow, standIns := [], harness := (true, "05ff524d11f7329c52b93a5f550ddbff2cd480ec760baca99b04757ec8dd6918"), looks := false }, kinds := [], alts := [], laidByText := true, laidKinds := [.data, .data, .data, .pinned], laidTests := true, laidLooks := .later }
def KexHashesCardSaid : Prop := Claim7.holds Tryd.pinned (.plain (OpenSpec.ofChange kexHashesSpec)) kexHashesCard

/-- THE TIED CARD OF 'tabularylaw08.KexBoth'. -/
def kexBothCard : Claim7 := { stood := { row := kexBothRow, standIns := [], harness := (true, "05ff524d11f7329c52b93a5f550ddbff2cd480ec760baca99b04757ec8dd6918"), looks := false }, kinds := [], alts := [], laidByText := true, laidKinds := [.data, .data, .data, .pinned], laidTests := true, laidLooks := .later }
def KexBothCardSaid : Prop := Claim7.holds Tryd.pinned (.plain (OpenSpec.ofChange kexBothSpec)) kexBothCard

/-- THE SECOND FORM's CARD OF 'tabularylaw08.KexOffers'. -/
def kexOffersUptoCard : Claim7 := { stood := { row := kexOffersUptoRow, standIns := [], harness := (true, "05ff524d11f7329c52b93a5f550ddbff2cd480ec760baca99b04757ec8dd6918"), looks := false }, kinds := [], alts := [], laidByText := true, laidKinds := [.data, .data, .data, .pinned], laidTests := true, laidLooks := .later }
def KexOffersUptoCardSaid : Prop := Claim7.holds Tryd.pinned (.plain (OpenSpec.upto kexOffersSpec)) kexOffersUptoCard

/-- THE SECOND FORM's CARD OF 'tabularylaw08.KexAgrees'. -/
def kexAgreesUptoCard : Claim7 := { stood := { row := kexAgreesUptoRow, standIns := [], harness := (true, "05ff524d11f7329c52b93a5f550ddbff2cd480ec760baca99b04757ec8dd6918"), looks := false }, kinds := [], alts := [], laidByText := true, laidKinds := [.data, .data, .data, .pinned], laidTests := true, laidLooks := .later }
def KexAgreesUptoCardSaid : Prop := Claim7.holds Tryd.pinned (.plain (OpenSpec.upto kexAgreesSpec)) kexAgreesUptoCard

/-- THE SECOND FORM's CARD OF 'tabularylaw08.KexFirst'. -/
def kexFirstUptoCard : Claim7 := { stood := { row := kexFirstUptoRow, standIns := [], harness := (true, "05ff524d11f7329c52b93a5f550ddbff2cd480ec760baca99b04757ec8dd6918"), looks := false }, kinds := [], alts := [], laidByText := true, laidKinds := [.data, .data, .data, .pinned], laidTests := true, laidLooks := .later }
def KexFirstUptoCardSaid : Prop := Claim7.holds Tryd.pinned (.plain (OpenSpec.upto kexFirstSpec)) kexFirstUptoCard

/-- THE SECOND FORM's CARD OF 'tabularylaw08.KexBlobs'. -/
def kexBlobsUptoCard : Claim7 := { stood := { row := kexBlobsUptoRow, standIns := [], harness := (true, "05ff524d11f7329c52b93a5f550ddbff2cd480ec760baca99b04757ec8dd6918"), looks := false }, kinds := [], alts := [], laidByText := true, laidKinds := [.data, .data, .data, .pinned], laidTests := true, laidLooks := .later }
def KexBlobsUptoCardSaid : Prop := Claim7.holds Tryd.pinned (.plain (OpenSpec.upto kexBlobsSpec)) kexBlobsUptoCard

/-- THE SECOND FORM's CARD OF 'tabularylaw08.KexHashes'. -/
def kexHashesUptoCard : Claim7 := { stood := { row := kexHashesUptoRow, standIns := [], harness := (true, "05ff524d11f7329c52b93a5f550ddbff2cd480ec760baca99b04757ec8dd6918"), looks := false }, kinds := [], alts := [], laidByText := true, laidKinds := [.data, .data, .data, .pinned], laidTests := true, laidLooks := .later }
def KexHashesUptoCardSaid : Prop := Claim7.holds Tryd.pinned (.plain (OpenSpec.upto kexHashesSpec)) kexHashesUptoCard

/-- THE SECOND FORM's CARD OF 'tabularylaw08.KexBoth'. -/
def kexBothUptoCard : Claim7 := { stood := { row := kexBothUptoRow, standIns := [], harness := (true, "05ff524d11f7329c52b93a5f550ddbff2cd480ec760baca99b04757ec8dd6918"), looks := false }, kinds := [], alts := [], laidByText := true, laidKinds := [.data, .data, .data, .pinned], laidTests := true, laidLooks := .later }
def KexBothUptoCardSaid : Prop := Claim7.holds Tryd.pinned (.plain (OpenSpec.upto kexBothSpec)) kexBothUptoCard
end Rows
end Go.Proofs.YtlmojjnpbpcbcaaDoor
