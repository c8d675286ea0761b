/-
  DERIVED. GIVEN WITH THE SEED: THE CARDS: each row of YtolgdbekdkldjaaDoorRows.lean that lists a variable, with what it lists TIED to the program's text (the seventh form; the later family's looks); each row that meets fmt, with fmt's text TOLD by the authors' own Lean function (tested against real Go, not proved from fmt's source: count such statements apart). THE CARD IS WHAT COUNTS. Prove the row's statement (the work); the ties are given (YtolgdbekdkldjaaDoorTie.lean); close each card by the builder's one call (the guide's Derived/Test/ToyasCard.lean, 'card_holds'). Laid BY PROGRAM, IN A SANDBOX (cutbox-door.mjs). By AI agents, Wed Nov 11 2026. No macro, syntax, notation, axiom, sorry.
-/
import Derived.Test.YtolgdbekdkldjaaDoorRows
import GoSem.ClaimSeven
namespace Go.Proofs.YtolgdbekdkldjaaDoor
namespace Rows

/-- THE TIED CARD OF 'perilunelaw12.DisasmOnes'. -/
def disasmOnesCard : Claim7 := { stood := { row := disasmOnesRow, standIns := [], harness := (true, "341778666321da362f39ad6b1c875d553c4ac2edf9c50496d07c422dc5a7ea6d"), looks := false }, kinds := [], alts := [], laidByText := true, laidKinds := [.data, .data, .data], laidTests := true, laidLooks := .later }
def DisasmOnesCardSaid : Prop := Claim7.holds Tryd.pinned (.plain (OpenSpec.ofChange disasmOnesSpec)) disasmOnesCard

/-- THE TIED CARD OF 'perilunelaw12.DisasmBanks'. -/
def disasmBanksCard : Claim7 := { stood := { row := disasmBanksRow, standIns := [], harness := (true, "341778666321da362f39ad6b1c875d553c4ac2edf9c50496d07c422dc5a7ea6d"), looks := false }, kinds := [], alts := [], laidByText := true, laidKinds := [.data, .data, .data], laidTests := true, laidLooks := .later }
def DisasmBanksCardSaid : Prop := Claim7.holds Tryd.pinned (.plain (OpenSpec.ofChange disasmBanksSpec)) disasmBanksCard

/-- THE TIED CARD OF 'perilunelaw12.DisasmImages'. -/
def disasmImagesCard : Claim7 := { stood := { row := disasmImagesRow, standIns := [], harness := (true, "341778666321da362f39ad6b1c875d553c4ac2edf9c50496d07c422dc5a7ea6d"), looks := false }, kinds := [], alts := [], laidByText := true, laidKinds := [.data, .data, .data], laidTests := true, laidLooks := .later }
def DisasmImagesCardSaid : Prop := Claim7.holds Tryd.pinned (.plain (OpenSpec.ofChange disasmImagesSpec)) disasmImagesCard

/-- THE TIED CARD OF 'perilunelaw12.DisasmAlone'. -/
def disasmAloneCard : Claim7 := { stood := { row := disasmAloneRow, standIns := [], harness := (true, "341778666321da362f39ad6b1c875d553c4ac2edf9c50496d07c422dc5a7ea6d"), looks := false }, kinds := [], alts := [], laidByText := true, laidKinds := [.data, .data, .data], laidTests := true, laidLooks := .later }
def DisasmAloneCardSaid : Prop := Claim7.holds Tryd.pinned (.plain (OpenSpec.ofChange disasmAloneSpec)) disasmAloneCard

/-- THE TIED CARD OF 'perilunelaw12.DisasmKnown'. -/
def disasmKnownCard : Claim7 := { stood := { row := disasmKnownRow, standIns := [], harness := (true, "341778666321da362f39ad6b1c875d553c4ac2edf9c50496d07c422dc5a7ea6d"), looks := false }, kinds := [], alts := [], laidByText := true, laidKinds := [.data, .data, .data], laidTests := true, laidLooks := .later }
def DisasmKnownCardSaid : Prop := Claim7.holds Tryd.pinned (.plain (OpenSpec.ofChange disasmKnownSpec)) disasmKnownCard

/-- THE SECOND FORM's CARD OF 'perilunelaw12.DisasmOnes'. -/
def disasmOnesUptoCard : Claim7 := { stood := { row := disasmOnesUptoRow, standIns := [], harness := (true, "341778666321da362f39ad6b1c875d553c4ac2edf9c50496d07c422dc5a7ea6d"), looks := false }, kinds := [], alts := [], laidByText := true, laidKinds := [.data, .data, .data], laidTests := true, laidLooks := .later }
def DisasmOnesUptoCardSaid : Prop := Claim7.holds Tryd.pinned (.plain (OpenSpec.upto disasmOnesSpec)) disasmOnesUptoCard

/-- THE SECOND FORM's CARD OF 'perilunelaw12.DisasmBanks'. -/
def disasmBanksUptoCard : Claim7 := { stood := { row := disasmBanksUptoRow, standIns := [], harness := (true, "341778666321da362f39ad6b1c875d553c4ac2edf9c50496d07c422dc5a7ea6d"), looks := false }, kinds := [], alts := [], laidByText := true, laidKinds := [.data, .data, .data], laidTests := true, laidLooks := .later }
def DisasmBanksUptoCardSaid : Prop := Claim7.holds Tryd.pinned (.plain (OpenSpec.upto disasmBanksSpec)) disasmBanksUptoCard

/-- THE SECOND FORM's CARD OF 'perilunelaw12.DisasmImages'. -/
def disasmImagesUptoCard : Claim7 := { stood := { row := disasmImagesUptoRow, standIns := [], harness := (true, "341778666321da362f39ad6b1c875d553c4ac2edf9c50496d07c422dc5a7ea6d"), looks := false }, kinds := [], alts := [], laidByText := true, laidKinds := [.data, .data, .data], laidTests := true, laidLooks := .later }
def DisasmImagesUptoCardSaid : Prop := Claim7.holds Tryd.pinned (.plain (OpenSpec.upto disasmImagesSpec)) disasmImagesUptoCard

/-- THE SECOND FORM's CARD OF 'perilunelaw12.DisasmAlone'. -/
def disasmAloneUptoCard : Claim7 := { stood := { row := disasmAloneUptoRow, standIns := [], harness := (true, "341778666321da362f39ad6b1c875d553c4ac2edf9c50496d07c422dc5a7ea6d"), looks := false }, kinds := [], alts := [], laidByText := true, laidKinds := [.data, .data, .data], laidTests := true, laidLooks := .later }
def DisasmAloneUptoCardSaid : Prop := Claim7.holds Tryd.pinned (.plain (OpenSpec.upto disasmAloneSpec)) disasmAloneUptoCard

/-- THE SECOND FORM's CARD OF 'perilunelaw12.DisasmKnown'. -/
def disasmKnownUptoCard : Claim7 := { stood := { row := disasmKnownUptoRow, standIns := [], harness := (true, "341778666321da362f39ad6b1c875d553c4ac2edf9c50496d07c422dc5a7ea6d"), looks := false }, kinds := [], alts := [], laidByText := true, laidKinds := [.data, .data, .data], laidTests := true, laidLooks := .later }
def DisasmKnownUptoCardSaid : Prop := Claim7.holds Tryd.pinned (.plain (OpenSpec.upto disasmKnownSpec)) disasmKnownUptoCard
end Rows
end Go.Proofs.YtolgdbekdkldjaaDoor
