/-
  DERIVED. GIVEN WITH THE SEED: THE CARDS: each row of YtkeecnoafjhhdaaGreatDoorRows.lean that lists a variable, with what it lists TIED to the program's text (the seventh form; the later family's looks); each row that meets fmt, with fmt's text TOLD by the authors' own Lean function (tested against real Go, not proved from fmt's source: count such statements apart). THE CARD IS WHAT COUNTS. Prove the row's statement (the work); the ties are given (YtkeecnoafjhhdaaGreatDoorTie.lean); close each card by the builder's one call (the guide's Derived/Test/ToyasCard.lean, 'card_holds'). Laid BY PROGRAM, IN A SANDBOX (cutbox-door.mjs). By AI agents, Wed Nov 11 2026. No macro, syntax, notation, axiom, sorry.
-/
import Derived.Test.YtkeecnoafjhhdaaGreatDoorRows
import GoSem.ClaimSeven
namespace Go.Proofs.YtkeecnoafjhhdaaGreatDoor
namespace Rows

/-- THE TIED CARD OF 'perilunelaw10.AsmAssembles'. -/
def asmAssemblesCard : Claim7 := { stood := { row := asmAssemblesRow, standIns := [], harness := (true, "1ecdc0ac099d24df5443708a63b2967bb1cbd4be8e3fb6ae86b4a2930006d9ce"), looks := true }, kinds := [], alts := [], laidByText := true, laidKinds := [.data, .data, .data], laidTests := true, laidLooks := .later }
def AsmAssemblesCardSaid : Prop := Claim7.holds Tryz.pinned (.plain (OpenSpec.ofChange asmAssemblesSpec)) asmAssemblesCard

/-- THE TIED CARD OF 'perilunelaw10.AsmTexts'. -/
def asmTextsCard : Claim7 := { stood := { row := asmTextsRow, standIns := [], harness := (true, "1ecdc0ac099d24df5443708a63b2967bb1cbd4be8e3fb6ae86b4a2930006d9ce"), looks := true }, kinds := [], alts := [], laidByText := true, laidKinds := [.data, .data, .data], laidTests := true, laidLooks := .later }
def AsmTextsCardSaid : Prop := Claim7.holds Tryz.pinned (.plain (OpenSpec.ofChange asmTextsSpec)) asmTextsCard

/-- THE TIED CARD OF 'perilunelaw10.AsmDecodes'. -/
def asmDecodesCard : Claim7 := { stood := { row := asmDecodesRow, standIns := [], harness := (true, "1ecdc0ac099d24df5443708a63b2967bb1cbd4be8e3fb6ae86b4a2930006d9ce"), looks := true }, kinds := [], alts := [], laidByText := true, laidKinds := [.data, .data, .data], laidTests := true, laidLooks := .later }
def AsmDecodesCardSaid : Prop := Claim7.holds Tryz.pinned (.plain (OpenSpec.ofChange asmDecodesSpec)) asmDecodesCard

/-- THE TIED CARD OF 'perilunelaw10.AsmIgnores'. -/
def asmIgnoresCard : Claim7 := { stood := { row := asmIgnoresRow, standIns := [], harness := (true, "1ecdc0ac099d24df5443708a63b2967bb1cbd4be8e3fb6ae86b4a2930006d9ce"), looks := true }, kinds := [], alts := [], laidByText := true, laidKinds := [.data, .data, .data], laidTests := true, laidLooks := .later }
def AsmIgnoresCardSaid : Prop := Claim7.holds Tryz.pinned (.plain (OpenSpec.ofChange asmIgnoresSpec)) asmIgnoresCard

/-- THE TIED CARD OF 'perilunelaw10.AsmSymbols'. -/
def asmSymbolsCard : Claim7 := { stood := { row := asmSymbolsRow, standIns := [], harness := (true, "1ecdc0ac099d24df5443708a63b2967bb1cbd4be8e3fb6ae86b4a2930006d9ce"), looks := true }, kinds := [], alts := [], laidByText := true, laidKinds := [.data, .data, .data], laidTests := true, laidLooks := .later }
def AsmSymbolsCardSaid : Prop := Claim7.holds Tryz.pinned (.plain (OpenSpec.ofChange asmSymbolsSpec)) asmSymbolsCard

/-- THE TIED CARD OF 'perilunelaw10.AsmKnown'. -/
def asmKnownCard : Claim7 := { stood := { row := asmKnownRow, standIns := [], harness := (true, "1ecdc0ac099d24df5443708a63b2967bb1cbd4be8e3fb6ae86b4a2930006d9ce"), looks := true }, kinds := [], alts := [], laidByText := true, laidKinds := [.data, .data, .data], laidTests := true, laidLooks := .later }
def AsmKnownCardSaid : Prop := Claim7.holds Tryz.pinned (.plain (OpenSpec.ofChange asmKnownSpec)) asmKnownCard

/-- THE TIED CARD OF 'perilunelaw10.AsmReaches'. -/
def asmReachesCard : Claim7 := { stood := { row := asmReachesRow, standIns := [], harness := (true, "1ecdc0ac099d24df5443708a63b2967bb1cbd4be8e3fb6ae86b4a2930006d9ce"), looks := true }, kinds := [], alts := [], laidByText := true, laidKinds := [.data, .data, .data], laidTests := true, laidLooks := .later }
def AsmReachesCardSaid : Prop := Claim7.holds Tryz.pinned (.plain (OpenSpec.ofChange asmReachesSpec)) asmReachesCard

/-- THE TIED CARD OF 'perilunelaw10.AsmOrders'. -/
def asmOrdersCard : Claim7 := { stood := { row := asmOrdersRow, standIns := [], harness := (true, "1ecdc0ac099d24df5443708a63b2967bb1cbd4be8e3fb6ae86b4a2930006d9ce"), looks := true }, kinds := [], alts := [], laidByText := true, laidKinds := [.data, .data, .data], laidTests := true, laidLooks := .later }
def AsmOrdersCardSaid : Prop := Claim7.holds Tryz.pinned (.plain (OpenSpec.ofChange asmOrdersSpec)) asmOrdersCard

/-- THE TIED CARD OF 'perilunelaw10.AsmRefers'. -/
def asmRefersCard : Claim7 := { stood := { row := asmRefersRow, standIns := [], harness := (true, "1ecdc0ac099d24df5443708a63b2967bb1cbd4be8e3fb6ae86b4a2930006d9ce"), looks := true }, kinds := [], alts := [], laidByText := true, laidKinds := [.data, .data, .data], laidTests := true, laidLooks := .later }
def AsmRefersCardSaid : Prop := Claim7.holds Tryz.pinned (.plain (OpenSpec.ofChange asmRefersSpec)) asmRefersCard

/-- THE SECOND FORM's CARD OF 'perilunelaw10.AsmAssembles'. -/
def asmAssemblesUptoCard : Claim7 := { stood := { row := asmAssemblesUptoRow, standIns := [], harness := (true, "1ecdc0ac099d24df5443708a63b2967bb1cbd4be8e3fb6ae86b4a2930006d9ce"), looks := true }, kinds := [], alts := [], laidByText := true, laidKinds := [.data, .data, .data], laidTests := true, laidLooks := .later }
def AsmAssemblesUptoCardSaid : Prop := Claim7.holds Tryz.pinned (.plain (OpenSpec.upto asmAssemblesSpec)) asmAssemblesUptoCard

/-- THE SECOND FORM's CARD OF 'perilunelaw10.AsmTexts'. -/
def asmTextsUptoCard : Claim7 := { stood := { row := asmTextsUptoRow, standIns := [], harness := (true, "1ecdc0ac099d24df5443708a63b2967bb1cbd4be8e3fb6ae86b4a2930006d9ce"), looks := true }, kinds := [], alts := [], laidByText := true, laidKinds := [.data, .data, .data], laidTests := true, laidLooks := .later }
def AsmTextsUptoCardSaid : Prop := Claim7.holds Tryz.pinned (.plain (OpenSpec.upto asmTextsSpec)) asmTextsUptoCard

/-- THE SECOND FORM's CARD OF 'perilunelaw10.AsmDecodes'. -/
def asmDecodesUptoCard : Claim7 := { stood := { row := asmDecodesUptoRow, standIns := [], harness := (true, "1ecdc0ac099d24df5443708a63b2967bb1cbd4be8e3fb6ae86b4a2930006d9ce"), looks := true }, kinds := [], alts := [], laidByText := true, laidKinds := [.data, .data, .data], laidTests := true, laidLooks := .later }
def AsmDecodesUptoCardSaid : Prop := Claim7.holds Tryz.pinned (.plain (OpenSpec.upto asmDecodesSpec)) asmDecodesUptoCard

/-- THE SECOND FORM's CARD OF 'perilunelaw10.AsmIgnores'. -/
def asmIgnoresUptoCard : Claim7 := { stood := { row := asmIgnoresUptoRow, standIns := [], harness := (true, "1ecdc0ac099d24df5443708a63b2967bb1cbd4be8e3fb6ae86b4a2930006d9ce"), looks := true }, kinds := [], alts := [], laidByText := true, laidKinds := [.data, .data, .data], laidTests := true, laidLooks := .later }
def AsmIgnoresUptoCardSaid : Prop := Claim7.holds Tryz.pinned (.plain (OpenSpec.upto asmIgnoresSpec)) asmIgnoresUptoCard

/-- THE SECOND FORM's CARD OF 'perilunelaw10.AsmSymbols'. -/
def asmSymbolsUptoCard : Claim7 := { stood := { row := asmSymbolsUptoRow, standIns := [], harness := (true, "1ecdc0ac099d24df5443708a63b2967bb1cbd4be8e3fb6ae86b4a2930006d9ce"), looks := true }, kinds := [], alts := [], laidByText := true, laidKinds := [.data, .data, .data], laidTests := true, laidLooks := .later }
def AsmSymbolsUptoCardSaid : Prop := Claim7.holds Tryz.pinned (.plain (OpenSpec.upto asmSymbolsSpec)) asmSymbolsUptoCard

/-- THE SECOND FORM's CARD OF 'perilunelaw10.AsmKnown'. -/
def asmKnownUptoCard : Claim7 := { stood := { row := asmKnownUptoRow, standIns := [], harness := (true, "1ecdc0ac099d24df5443708a63b2967bb1cbd4be8e3fb6ae86b4a2930006d9ce"), looks := true }, kinds := [], alts := [], laidByText := true, laidKinds := [.data, .data, .data], laidTests := true, laidLooks := .later }
def AsmKnownUptoCardSaid : Prop := Claim7.holds Tryz.pinned (.plain (OpenSpec.upto asmKnownSpec)) asmKnownUptoCard

/-- THE SECOND FORM's CARD OF 'perilunelaw10.AsmReaches'. -/
def asmReachesUptoCard : Claim7 := { stood := { row := asmReachesUptoRow, standIns := [], harness := (true, "1ecdc0ac099d24df5443708a63b2967bb1cbd4be8e3fb6ae86b4a2930006d9ce"), looks := true }, kinds := [], alts := [], laidByText := true, laidKinds := [.data, .data, .data], laidTests := true, laidLooks := .later }
def AsmReachesUptoCardSaid : Prop := Claim7.holds Tryz.pinned (.plain (OpenSpec.upto asmReachesSpec)) asmReachesUptoCard

/-- THE SECOND FORM's CARD OF 'perilunelaw10.AsmOrders'. -/
def asmOrdersUptoCard : Claim7 := { stood := { row := asmOrdersUptoRow, standIns := [], harness := (true, "1ecdc0ac099d24df5443708a63b2967bb1cbd4be8e3fb6ae86b4a2930006d9ce"), looks := true }, kinds := [], alts := [], laidByText := true, laidKinds := [.data, .data, .data], laidTests := true, laidLooks := .later }
def AsmOrdersUptoCardSaid : Prop := Claim7.holds Tryz.pinned (.plain (OpenSpec.upto asmOrdersSpec)) asmOrdersUptoCard

/-- THE SECOND FORM's CARD OF 'perilunelaw10.AsmRefers'. -/
def asmRefersUptoCard : Claim7 := { stood := { row := asmRefersUptoRow, standIns := [], harness := (true, "1ecdc0ac099d24df5443708a63b2967bb1cbd4be8e3fb6ae86b4a2930006d9ce"), looks := true }, kinds := [], alts := [], laidByText := true, laidKinds := [.data, .data, .data], laidTests := true, laidLooks := .later }
def AsmRefersUptoCardSaid : Prop := Claim7.holds Tryz.pinned (.plain (OpenSpec.upto asmRefersSpec)) asmRefersUptoCard
end Rows
end Go.Proofs.YtkeecnoafjhhdaaGreatDoor
