/-
  DERIVED. GIVEN WITH THE SEED: THE CARDS: each row of YtclfmaifcelcpaaDoorRows.lean that lists a variable, with what it lists TIED to the program's text (the seventh form; the later family's looks); each row that meets fmt, with fmt's text TOLD by the authors' own Lean function (tested against real Go, not proved from fmt's source: count such statements apart). THE CARD IS WHAT COUNTS. Prove the row's statement (the work); the ties are given (YtclfmaifcelcpaaDoorTie.lean); close each card by the builder's one call (the guide's Derived/Test/ToyasCard.lean, 'card_holds'). Laid BY PROGRAM, IN A SANDBOX (cutbox-door.mjs). By AI agents, Wed Nov 11 2026. No macro, syntax, notation, axiom, sorry.
-/
import Derived.Test.YtclfmaifcelcpaaDoorRows
import GoSem.ClaimSeven
namespace Go.Proofs.YtclfmaifcelcpaaDoor
namespace Rows

/-- THE TIED CARD OF 'tabularylaw01.WireReads'. -/
def wireReadsCard : Claim7 := { stood := { row := wireReadsRow, standIns := [], harness := (true, "564855c2d415a956264c67bbf7750366aa4d68f96fe6c8764d2ee33c00d3b6ed"), looks := false }, kinds := [], alts := [], laidByText := true, laidKinds := [.data, .pinned], laidTests := true, laidLooks := .later }
def WireReadsCardSaid : Prop := Claim7.holds Tryd.pinned (.plain (OpenSpec.ofChange wireReadsSpec)) wireReadsCard

/-- THE TIED CARD OF 'tabularylaw01.WireNone'. -/
def wireNoneCard : Claim7 := { stood := { row := wireNoneRow, standIns := [], harness := (true, "564855c2d415a956264c67bbf7750366aa4d68f96fe6c8764d2ee33c00d3b6ed"), looks := false }, kinds := [], alts := [], laidByText := true, laidKinds := [.data, .pinned], laidTests := true, laidLooks := .later }
def WireNoneCardSaid : Prop := Claim7.holds Tryd.pinned (.plain (OpenSpec.ofChange wireNoneSpec)) wireNoneCard

/-- THE TIED CARD OF 'tabularylaw01.WireBack'. -/
def wireBackCard : Claim7 := { stood := { row := wireBackRow, standIns := [], harness := (true, "564855c2d415a956264c67bbf7750366aa4d68f96fe6c8764d2ee33c00d3b6ed"), looks := false }, kinds := [], alts := [], laidByText := true, laidKinds := [.data, .pinned], laidTests := true, laidLooks := .later }
def WireBackCardSaid : Prop := Claim7.holds Tryd.pinned (.plain (OpenSpec.ofChange wireBackSpec)) wireBackCard

/-- THE TIED CARD OF 'tabularylaw02.DigestSums'. -/
def digestSumsCard : Claim7 := { stood := { row := digestSumsRow, standIns := [], harness := (true, "564855c2d415a956264c67bbf7750366aa4d68f96fe6c8764d2ee33c00d3b6ed"), looks := false }, kinds := [], alts := [], laidByText := true, laidKinds := [.data, .data], laidTests := true, laidLooks := .later }
def DigestSumsCardSaid : Prop := Claim7.holds Tryd.pinned (.plain (OpenSpec.ofChange digestSumsSpec)) digestSumsCard

/-- THE TIED CARD OF 'tabularylaw02.DigestSame'. -/
def digestSameCard : Claim7 := { stood := { row := digestSameRow, standIns := [], harness := (true, "564855c2d415a956264c67bbf7750366aa4d68f96fe6c8764d2ee33c00d3b6ed"), looks := false }, kinds := [], alts := [], laidByText := true, laidKinds := [.data, .data], laidTests := true, laidLooks := .later }
def DigestSameCardSaid : Prop := Claim7.holds Tryd.pinned (.plain (OpenSpec.ofChange digestSameSpec)) digestSameCard

/-- THE TIED CARD OF 'tabularylaw02.DigestDraws'. -/
def digestDrawsCard : Claim7 := { stood := { row := digestDrawsRow, standIns := [], harness := (true, "564855c2d415a956264c67bbf7750366aa4d68f96fe6c8764d2ee33c00d3b6ed"), looks := false }, kinds := [], alts := [], laidByText := true, laidKinds := [.data, .data], laidTests := true, laidLooks := .later }
def DigestDrawsCardSaid : Prop := Claim7.holds Tryd.pinned (.plain (OpenSpec.ofChange digestDrawsSpec)) digestDrawsCard

/-- THE TIED CARD OF 'tabularylaw02.DigestMacs'. -/
def digestMacsCard : Claim7 := { stood := { row := digestMacsRow, standIns := [], harness := (true, "564855c2d415a956264c67bbf7750366aa4d68f96fe6c8764d2ee33c00d3b6ed"), looks := false }, kinds := [], alts := [], laidByText := true, laidKinds := [.data, .data], laidTests := true, laidLooks := .later }
def DigestMacsCardSaid : Prop := Claim7.holds Tryd.pinned (.plain (OpenSpec.ofChange digestMacsSpec)) digestMacsCard

/-- THE TIED CARD OF 'tabularylaw02.DigestOwn'. -/
def digestOwnCard : Claim7 := { stood := { row := digestOwnRow, standIns := [], harness := (true, "564855c2d415a956264c67bbf7750366aa4d68f96fe6c8764d2ee33c00d3b6ed"), looks := false }, kinds := [], alts := [], laidByText := true, laidKinds := [.data, .data], laidTests := true, laidLooks := .later }
def DigestOwnCardSaid : Prop := Claim7.holds Tryd.pinned (.plain (OpenSpec.ofChange digestOwnSpec)) digestOwnCard

/-- THE SECOND FORM's CARD OF 'tabularylaw01.WireReads'. -/
def wireReadsUptoCard : Claim7 := { stood := { row := wireReadsUptoRow, standIns := [], harness := (true, "564855c2d415a956264c67bbf7750366aa4d68f96fe6c8764d2ee33c00d3b6ed"), looks := false }, kinds := [], alts := [], laidByText := true, laidKinds := [.data, .pinned], laidTests := true, laidLooks := .later }
def WireReadsUptoCardSaid : Prop := Claim7.holds Tryd.pinned (.plain (OpenSpec.upto wireReadsSpec)) wireReadsUptoCard

/-- THE SECOND FORM's CARD OF 'tabularylaw01.WireNone'. -/
def wireNoneUptoCard : Claim7 := { stood := { row := wireNoneUptoRow, standIns := [], harness := (true, "564855c2d415a956264c67bbf7750366aa4d68f96fe6c8764d2ee33c00d3b6ed"), looks := false }, kinds := [], alts := [], laidByText := true, laidKinds := [.data, .pinned], laidTests := true, laidLooks := .later }
def WireNoneUptoCardSaid : Prop := Claim7.holds Tryd.pinned (.plain (OpenSpec.upto wireNoneSpec)) wireNoneUptoCard

/-- THE SECOND FORM's CARD OF 'tabularylaw01.WireBack'. -/
def wireBackUptoCard : Claim7 := { stood := { row := wireBackUptoRow, standIns := [], harness := (true, "564855c2d415a956264c67bbf7750366aa4d68f96fe6c8764d2ee33c00d3b6ed"), looks := false }, kinds := [], alts := [], laidByText := true, laidKinds := [.data, .pinned], laidTests := true, laidLooks := .later }
def WireBackUptoCardSaid : Prop := Claim7.holds Tryd.pinned (.plain (OpenSpec.upto wireBackSpec)) wireBackUptoCard

/-- THE SECOND FORM's CARD OF 'tabularylaw02.DigestSums'. -/
def digestSumsUptoCard : Claim7 := { stood := { row := digestSumsUptoRow, standIns := [], harness := (true, "564855c2d415a956264c67bbf7750366aa4d68f96fe6c8764d2ee33c00d3b6ed"), looks := false }, kinds := [], alts := [], laidByText := true, laidKinds := [.data, .data], laidTests := true, laidLooks := .later }
def DigestSumsUptoCardSaid : Prop := Claim7.holds Tryd.pinned (.plain (OpenSpec.upto digestSumsSpec)) digestSumsUptoCard

/-- THE SECOND FORM's CARD OF 'tabularylaw02.DigestSame'. -/
def digestSameUptoCard : Claim7 := { stood := { row := digestSameUptoRow, standIns := [], harness := (true, "564855c2d415a956264c67bbf7750366aa4d68f96fe6c8764d2ee33c00d3b6ed"), looks := false }, kinds := [], alts := [], laidByText := true, laidKinds := [.data, .data], laidTests := true, laidLooks := .later }
def DigestSameUptoCardSaid : Prop := Claim7.holds Tryd.pinned (.plain (OpenSpec.upto digestSameSpec)) digestSameUptoCard

/-- THE SECOND FORM's CARD OF 'tabularylaw02.DigestDraws'. -/
def digestDrawsUptoCard : Claim7 := { stood := { row := digestDrawsUptoRow, standIns := [], harness := (true, "564855c2d415a956264c67bbf7750366aa4d68f96fe6c8764d2ee33c00d3b6ed"), looks := false }, kinds := [], alts := [], laidByText := true, laidKinds := [.data, .data], laidTests := true, laidLooks := .later }
def DigestDrawsUptoCardSaid : Prop := Claim7.holds Tryd.pinned (.plain (OpenSpec.upto digestDrawsSpec)) digestDrawsUptoCard

/-- THE SECOND FORM's CARD OF 'tabularylaw02.DigestMacs'. -/
def digestMacsUptoCard : Claim7 := { stood := { row := digestMacsUptoRow, standIns := [], harness := (true, "564855c2d415a956264c67bbf7750366aa4d68f96fe6c8764d2ee33c00d3b6ed"), looks := false }, kinds := [], alts := [], laidByText := true, laidKinds := [.data, .data], laidTests := true, laidLooks := .later }
def DigestMacsUptoCardSaid : Prop := Claim7.holds Tryd.pinned (.plain (OpenSpec.upto digestMacsSpec)) digestMacsUptoCard

/-- THE SECOND FORM's CARD OF 'tabularylaw02.DigestOwn'. -/
def digestOwnUptoCard : Claim7 := { stood := { row := digestOwnUptoRow, standIns := [], harness := (true, "564855c2d415a956264c67bbf7750366aa4d68f96fe6c8764d2ee33c00d3b6ed"), looks := false }, kinds := [], alts := [], laidByText := true, laidKinds := [.data, .data], laidTests := true, laidLooks := .later }
def DigestOwnUptoCardSaid : Prop := Claim7.holds Tryd.pinned (.plain (OpenSpec.upto digestOwnSpec)) digestOwnUptoCard
end Rows
end Go.Proofs.YtclfmaifcelcpaaDoor
