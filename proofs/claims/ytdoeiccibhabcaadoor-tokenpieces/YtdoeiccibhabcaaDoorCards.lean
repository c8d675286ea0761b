/-
  DERIVED. GIVEN WITH THE SEED: THE CARDS: each row of YtdoeiccibhabcaaDoorRows.lean that lists a variable, with what it lists TIED to the program's text (the seventh form; the later family's looks); each row that meets fmt, with fmt's text TOLD by the authors' own Lean function (tested against real Go, not proved from fmt's source: count such statements apart). THE CARD IS WHAT COUNTS. Prove the row's statement (the work); the ties are given (YtdoeiccibhabcaaDoorTie.lean); close each card by the builder's one call (the guide's Derived/Test/ToyasCard.lean, 'card_holds'). Laid BY PROGRAM, IN A SANDBOX (cutbox-door.mjs). By AI agents, Wed Nov 11 2026. No macro, syntax, notation, axiom, sorry.
-/
import Derived.Test.YtdoeiccibhabcaaDoorRows
import GoSem.ClaimSeven
namespace Go.Proofs.YtdoeiccibhabcaaDoor
namespace Rows

/-- THE TIED CARD OF 'perilunelaw09.TokenNumbers'. -/
def tokenNumbersCard : Claim7 := { stood := { row := tokenNumbersRow, standIns := [], harness := (true, "265f02ad9d2661d3c4b95a1abc32752552398e1c28282887a36be2365e60b0f6"), looks := false }, kinds := [], alts := [], laidByText := true, laidKinds := [.data, .data, .data], laidTests := true, laidLooks := .later }
def TokenNumbersCardSaid : Prop := Claim7.holds Tryd.pinned (.plain (OpenSpec.ofChange tokenNumbersSpec)) tokenNumbersCard

/-- THE TIED CARD OF 'perilunelaw09.TokenOperands'. -/
def tokenOperandsCard : Claim7 := { stood := { row := tokenOperandsRow, standIns := [], harness := (true, "265f02ad9d2661d3c4b95a1abc32752552398e1c28282887a36be2365e60b0f6"), looks := false }, kinds := [], alts := [], laidByText := true, laidKinds := [.data, .data, .data], laidTests := true, laidLooks := .later }
def TokenOperandsCardSaid : Prop := Claim7.holds Tryd.pinned (.plain (OpenSpec.ofChange tokenOperandsSpec)) tokenOperandsCard

/-- THE TIED CARD OF 'perilunelaw09.TokenScans'. -/
def tokenScansCard : Claim7 := { stood := { row := tokenScansRow, standIns := [], harness := (true, "265f02ad9d2661d3c4b95a1abc32752552398e1c28282887a36be2365e60b0f6"), looks := false }, kinds := [], alts := [], laidByText := true, laidKinds := [.data, .data, .data], laidTests := true, laidLooks := .later }
def TokenScansCardSaid : Prop := Claim7.holds Tryd.pinned (.plain (OpenSpec.ofChange tokenScansSpec)) tokenScansCard

/-- THE TIED CARD OF 'perilunelaw09.TokenPrints'. -/
def tokenPrintsCard : Claim7 := { stood := { row := tokenPrintsRow, standIns := [], harness := (true, "265f02ad9d2661d3c4b95a1abc32752552398e1c28282887a36be2365e60b0f6"), looks := false }, kinds := [], alts := [], laidByText := true, laidKinds := [.data, .data, .data], laidTests := true, laidLooks := .later }
def TokenPrintsCardSaid : Prop := Claim7.holds Tryd.pinned (.plain (OpenSpec.ofChange tokenPrintsSpec)) tokenPrintsCard

/-- THE TIED CARD OF 'perilunelaw09.TokenAgain'. -/
def tokenAgainCard : Claim7 := { stood := { row := tokenAgainRow, standIns := [], harness := (true, "265f02ad9d2661d3c4b95a1abc32752552398e1c28282887a36be2365e60b0f6"), looks := false }, kinds := [], alts := [], laidByText := true, laidKinds := [.data, .data, .data], laidTests := true, laidLooks := .later }
def TokenAgainCardSaid : Prop := Claim7.holds Tryd.pinned (.plain (OpenSpec.ofChange tokenAgainSpec)) tokenAgainCard

/-- THE TIED CARD OF 'perilunelaw09.TokenBlanks'. -/
def tokenBlanksCard : Claim7 := { stood := { row := tokenBlanksRow, standIns := [], harness := (true, "265f02ad9d2661d3c4b95a1abc32752552398e1c28282887a36be2365e60b0f6"), looks := false }, kinds := [], alts := [], laidByText := true, laidKinds := [.data, .data, .data], laidTests := true, laidLooks := .later }
def TokenBlanksCardSaid : Prop := Claim7.holds Tryd.pinned (.plain (OpenSpec.ofChange tokenBlanksSpec)) tokenBlanksCard

/-- THE TIED CARD OF 'perilunelaw09.TokenRanges'. -/
def tokenRangesCard : Claim7 := { stood := { row := tokenRangesRow, standIns := [], harness := (true, "265f02ad9d2661d3c4b95a1abc32752552398e1c28282887a36be2365e60b0f6"), looks := false }, kinds := [], alts := [], laidByText := true, laidKinds := [.data, .data, .data], laidTests := true, laidLooks := .later }
def TokenRangesCardSaid : Prop := Claim7.holds Tryd.pinned (.plain (OpenSpec.ofChange tokenRangesSpec)) tokenRangesCard

/-- THE TIED CARD OF 'perilunelaw09.TokenSources'. -/
def tokenSourcesCard : Claim7 := { stood := { row := tokenSourcesRow, standIns := [], harness := (true, "265f02ad9d2661d3c4b95a1abc32752552398e1c28282887a36be2365e60b0f6"), looks := false }, kinds := [], alts := [], laidByText := true, laidKinds := [.data, .data, .data], laidTests := true, laidLooks := .later }
def TokenSourcesCardSaid : Prop := Claim7.holds Tryd.pinned (.plain (OpenSpec.ofChange tokenSourcesSpec)) tokenSourcesCard

/-- THE TIED CARD OF 'perilunelaw09.TokenRound'. -/
def tokenRoundCard : Claim7 := { stood := { row := tokenRoundRow, standIns := [], harness := (true, "265f02ad9d2661d3c4b95a1abc32752552398e1c28282887a36be2365e60b0f6"), looks := false }, kinds := [], alts := [], laidByText := true, laidKinds := [.data, .data, .data], laidTests := true, laidLooks := .later }
def TokenRoundCardSaid : Prop := Claim7.holds Tryd.pinned (.plain (OpenSpec.ofChange tokenRoundSpec)) tokenRoundCard

/-- THE TIED CARD OF 'perilunelaw09.TokenPieces'. -/
def tokenPiecesCard : Claim7 := { stood := { row := tokenPiecesRow, standIns := [], harness := (true, "265f02ad9d2661d3c4b95a1abc32752552398e1c28282887a36be2365e60b0f6"), looks := false }, kinds := [], alts := [], laidByText := true, laidKinds := [.data, .data, .data], laidTests := true, laidLooks := .later }
def TokenPiecesCardSaid : Prop := Claim7.holds Tryd.pinned (.plain (OpenSpec.ofChange tokenPiecesSpec)) tokenPiecesCard

/-- THE TIED CARD OF 'perilunelaw09.TokenKnown'. -/
def tokenKnownCard : Claim7 := { stood := { row := tokenKnownRow, standIns := [], harness := (true, "265f02ad9d2661d3c4b95a1abc32752552398e1c28282887a36be2365e60b0f6"), looks := false }, kinds := [], alts := [], laidByText := true, laidKinds := [.data, .data, .data], laidTests := true, laidLooks := .later }
def TokenKnownCardSaid : Prop := Claim7.holds Tryd.pinned (.plain (OpenSpec.ofChange tokenKnownSpec)) tokenKnownCard

/-- THE SECOND FORM's CARD OF 'perilunelaw09.TokenNumbers'. -/
def tokenNumbersUptoCard : Claim7 := { stood := { row := tokenNumbersUptoRow, standIns := [], harness := (true, "265f02ad9d2661d3c4b95a1abc32752552398e1c28282887a36be2365e60b0f6"), looks := false }, kinds := [], alts := [], laidByText := true, laidKinds := [.data, .data, .data], laidTests := true, laidLooks := .later }
def TokenNumbersUptoCardSaid : Prop := Claim7.holds Tryd.pinned (.plain (OpenSpec.upto tokenNumbersSpec)) tokenNumbersUptoCard

/-- THE SECOND FORM's CARD OF 'perilunelaw09.TokenOperands'. -/
def tokenOperandsUptoCard : Claim7 := { stood := { row := tokenOperandsUptoRow, standIns := [], harness := (true, "265f02ad9d2661d3c4b95a1abc32752552398e1c28282887a36be2365e60b0f6"), looks := false }, kinds := [], alts := [], laidByText := true, laidKinds := [.data, .data, .data], laidTests := true, laidLooks := .later }
def TokenOperandsUptoCardSaid : Prop := Claim7.holds Tryd.pinned (.plain (OpenSpec.upto tokenOperandsSpec)) tokenOperandsUptoCard

/-- THE SECOND FORM's CARD OF 'perilunelaw09.TokenScans'. -/
def tokenScansUptoCard : Claim7 := { stood := { row := tokenScansUptoRow, standIns := [], harness := (true, "265f02ad9d2661d3c4b95a1abc32752552398e1c28282887a36be2365e60b0f6"), looks := false }, kinds := [], alts := [], laidByText := true, laidKinds := [.data, .data, .data], laidTests := true, laidLooks := .later }
def TokenScansUptoCardSaid : Prop := Claim7.holds Tryd.pinned (.plain (OpenSpec.upto tokenScansSpec)) tokenScansUptoCard

/-- THE SECOND FORM's CARD OF 'perilunelaw09.TokenPrints'. -/
def tokenPrintsUptoCard : Claim7 := { stood := { row := tokenPrintsUptoRow, standIns := [], harness := (true, "265f02ad9d2661d3c4b95a1abc32752552398e1c28282887a36be2365e60b0f6"), looks := false }, kinds := [], alts := [], laidByText := true, laidKinds := [.data, .data, .data], laidTests := true, laidLooks := .later }
def TokenPrintsUptoCardSaid : Prop := Claim7.holds Tryd.pinned (.plain (OpenSpec.upto tokenPrintsSpec)) tokenPrintsUptoCard

/-- THE SECOND FORM's CARD OF 'perilunelaw09.TokenAgain'. -/
def tokenAgainUptoCard : Claim7 := { stood := { row := tokenAgainUptoRow, standIns := [], harness := (true, "265f02ad9d2661d3c4b95a1abc32752552398e1c28282887a36be2365e60b0f6"), looks := false }, kinds := [], alts := [], laidByText := true, laidKinds := [.data, .data, .data], laidTests := true, laidLooks := .later }
def TokenAgainUptoCardSaid : Prop := Claim7.holds Tryd.pinned (.plain (OpenSpec.upto tokenAgainSpec)) tokenAgainUptoCard

/-- THE SECOND FORM's CARD OF 'perilunelaw09.TokenBlanks'. -/
def tokenBlanksUptoCard : Claim7 := { stood := { row := tokenBlanksUptoRow, standIns := [], harness := (true, "265f02ad9d2661d3c4b95a1abc32752552398e1c28282887a36be2365e60b0f6"), looks := false }, kinds := [], alts := [], laidByText := true, laidKinds := [.data, .data, .data], laidTests := true, laidLooks := .later }
def TokenBlanksUptoCardSaid : Prop := Claim7.holds Tryd.pinned (.plain (OpenSpec.upto tokenBlanksSpec)) tokenBlanksUptoCard

/-- THE SECOND FORM's CARD OF 'perilunelaw09.TokenRanges'. -/
def tokenRangesUptoCard : Claim7 := { stood := { row := tokenRangesUptoRow, standIns := [], harness := (true, "265f02ad9d2661d3c4b95a1abc32752552398e1c28282887a36be2365e60b0f6"), looks := false }, kinds := [], alts := [], laidByText := true, laidKinds := [.data, .data, .data], laidTests := true, laidLooks := .later }
def TokenRangesUptoCardSaid : Prop := Claim7.holds Tryd.pinned (.plain (OpenSpec.upto tokenRangesSpec)) tokenRangesUptoCard

/-- THE SECOND FORM's CARD OF 'perilunelaw09.TokenSources'. -/
def tokenSourcesUptoCard : Claim7 := { stood := { row := tokenSourcesUptoRow, standIns := [], harness := (true, "265f02ad9d2661d3c4b95a1abc32752552398e1c28282887a36be2365e60b0f6"), looks := false }, kinds := [], alts := [], laidByText := true, laidKinds := [.data, .data, .data], laidTests := true, laidLooks := .later }
def TokenSourcesUptoCardSaid : Prop := Claim7.holds Tryd.pinned (.plain (OpenSpec.upto tokenSourcesSpec)) tokenSourcesUptoCard

/-- THE SECOND FORM's CARD OF 'perilunelaw09.TokenRound'. -/
def tokenRoundUptoCard : Claim7 := { stood := { row := tokenRoundUptoRow, standIns := [], harness := (true, "265f02ad9d2661d3c4b95a1abc32752552398e1c28282887a36be2365e60b0f6"), looks := false }, kinds := [], alts := [], laidByText := true, laidKinds := [.data, .data, .data], laidTests := true, laidLooks := .later }
def TokenRoundUptoCardSaid : Prop := Claim7.holds Tryd.pinned (.plain (OpenSpec.upto tokenRoundSpec)) tokenRoundUptoCard

/-- THE SECOND FORM's CARD OF 'perilunelaw09.TokenPieces'. -/
def tokenPiecesUptoCard : Claim7 := { stood := { row := tokenPiecesUptoRow, standIns := [], harness := (true, "265f02ad9d2661d3c4b95a1abc32752552398e1c28282887a36be2365e60b0f6"), looks := false }, kinds := [], alts := [], laidByText := true, laidKinds := [.data, .data, .data], laidTests := true, laidLooks := .later }
def TokenPiecesUptoCardSaid : Prop := Claim7.holds Tryd.pinned (.plain (OpenSpec.upto tokenPiecesSpec)) tokenPiecesUptoCard

/-- THE SECOND FORM's CARD OF 'perilunelaw09.TokenKnown'. -/
def tokenKnownUptoCard : Claim7 := { stood := { row := tokenKnownUptoRow, standIns := [], harness := (true, "265f02ad9d2661d3c4b95a1abc32752552398e1c28282887a36be2365e60b0f6"), looks := false }, kinds := [], alts := [], laidByText := true, laidKinds := [.data, .data, .data], laidTests := true, laidLooks := .later }
def TokenKnownUptoCardSaid : Prop := Claim7.holds Tryd.pinned (.plain (OpenSpec.upto tokenKnownSpec)) tokenKnownUptoCard
end Rows
end Go.Proofs.YtdoeiccibhabcaaDoor
