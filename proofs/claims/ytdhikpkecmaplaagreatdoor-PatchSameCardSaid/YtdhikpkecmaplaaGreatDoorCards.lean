/-
  DERIVED. GIVEN WITH THE SEED: THE CARDS: each row of YtdhikpkecmaplaaGreatDoorRows.lean that lists a variable, with what it lists TIED to the program's text (the seventh form; the later family's looks); each row that meets fmt, with fmt's text TOLD by the authors' own Lean function (tested against real Go, not proved from fmt's source: count such statements apart). THE CARD IS WHAT COUNTS. Prove the row's statement (the work); the ties are given (YtdhikpkecmaplaaGreatDoorTie.lean); close each card by the builder's one call (the guide's Derived/Test/ToyasCard.lean, 'card_holds'). Laid BY PROGRAM, IN A SANDBOX (cutbox-door.mjs). By AI agents, Wed Nov 11 2026. No macro, syntax, notation, axiom, sorry.
-/
import Derived.Test.YtdhikpkecmaplaaGreatDoorRows
import GoSem.ClaimSeven
namespace Go.Proofs.YtdhikpkecmaplaaGreatDoor
namespace Rows

/-- THE TIED CARD OF 'marcheslaw40.PatchSafe'. -/
def patchSafeCard : Claim7 := { stood := { row := patchSafeRow, standIns := [], harness := (true, "0e4d74e08126959e2da6481915a023b63b511b97c780d8574744ba77ecc4c601"), looks := true }, kinds := [], alts := [], laidByText := true, laidKinds := [.data, .data, .data, .data, .sentinel, .sentinel, .listed, .data, .pinned], laidTests := true, laidLooks := .later }
def PatchSafeCardSaid : Prop := Claim7.holds Tryz.pinned (.plain (OpenSpec.ofChange patchSafeSpec)) patchSafeCard

/-- THE TIED CARD OF 'marcheslaw40.PatchSame'. -/
def patchSameCard : Claim7 := { stood := { row := patchSameRow, standIns := [], harness := (true, "0e4d74e08126959e2da6481915a023b63b511b97c780d8574744ba77ecc4c601"), looks := true }, kinds := [], alts := [], laidByText := true, laidKinds := [.data, .data, .data, .data, .sentinel, .sentinel, .listed, .data, .pinned], laidTests := true, laidLooks := .later }
def PatchSameCardSaid : Prop := Claim7.holds Tryz.pinned (.plain (OpenSpec.ofChange patchSameSpec)) patchSameCard

/-- THE TIED CARD OF 'marcheslaw40.PatchFits'. -/
def patchFitsCard : Claim7 := { stood := { row := patchFitsRow, standIns := [], harness := (true, "0e4d74e08126959e2da6481915a023b63b511b97c780d8574744ba77ecc4c601"), looks := true }, kinds := [], alts := [], laidByText := true, laidKinds := [.data, .data, .data, .data, .sentinel, .sentinel, .listed, .data, .pinned], laidTests := true, laidLooks := .later }
def PatchFitsCardSaid : Prop := Claim7.holds Tryz.pinned (.plain (OpenSpec.ofChange patchFitsSpec)) patchFitsCard

/-- THE TIED CARD OF 'marcheslaw40.PatchTime'. -/
def patchTimeCard : Claim7 := { stood := { row := patchTimeRow, standIns := [], harness := (true, "0e4d74e08126959e2da6481915a023b63b511b97c780d8574744ba77ecc4c601"), looks := true }, kinds := [], alts := [], laidByText := true, laidKinds := [.data, .data, .data, .data, .sentinel, .sentinel, .listed, .data, .pinned], laidTests := true, laidLooks := .later }
def PatchTimeCardSaid : Prop := Claim7.holds Tryz.pinned (.plain (OpenSpec.ofChange patchTimeSpec)) patchTimeCard

/-- THE TIED CARD OF 'marcheslaw40.PatchChecks'. -/
def patchChecksCard : Claim7 := { stood := { row := patchChecksRow, standIns := [], harness := (true, "0e4d74e08126959e2da6481915a023b63b511b97c780d8574744ba77ecc4c601"), looks := true }, kinds := [], alts := [], laidByText := true, laidKinds := [.data, .data, .data, .data, .sentinel, .sentinel, .listed, .data, .pinned], laidTests := true, laidLooks := .later }
def PatchChecksCardSaid : Prop := Claim7.holds Tryz.pinned (.plain (OpenSpec.ofChange patchChecksSpec)) patchChecksCard

/-- THE TIED CARD OF 'marcheslaw40.PatchMasks'. -/
def patchMasksCard : Claim7 := { stood := { row := patchMasksRow, standIns := [], harness := (true, "0e4d74e08126959e2da6481915a023b63b511b97c780d8574744ba77ecc4c601"), looks := true }, kinds := [], alts := [], laidByText := true, laidKinds := [.data, .data, .data, .data, .sentinel, .sentinel, .listed, .data, .pinned], laidTests := true, laidLooks := .later }
def PatchMasksCardSaid : Prop := Claim7.holds Tryz.pinned (.plain (OpenSpec.ofChange patchMasksSpec)) patchMasksCard

/-- THE TIED CARD OF 'marcheslaw40.PatchPlace'. -/
def patchPlaceCard : Claim7 := { stood := { row := patchPlaceRow, standIns := [], harness := (true, "0e4d74e08126959e2da6481915a023b63b511b97c780d8574744ba77ecc4c601"), looks := true }, kinds := [], alts := [], laidByText := true, laidKinds := [.data, .data, .data, .data, .sentinel, .sentinel, .listed, .data, .pinned], laidTests := true, laidLooks := .later }
def PatchPlaceCardSaid : Prop := Claim7.holds Tryz.pinned (.plain (OpenSpec.ofChange patchPlaceSpec)) patchPlaceCard

/-- THE TIED CARD OF 'marcheslaw40.PatchWrong'. -/
def patchWrongCard : Claim7 := { stood := { row := patchWrongRow, standIns := [], harness := (true, "0e4d74e08126959e2da6481915a023b63b511b97c780d8574744ba77ecc4c601"), looks := true }, kinds := [], alts := [], laidByText := true, laidKinds := [.data, .data, .data, .data, .sentinel, .sentinel, .listed, .data, .pinned], laidTests := true, laidLooks := .later }
def PatchWrongCardSaid : Prop := Claim7.holds Tryz.pinned (.plain (OpenSpec.ofChange patchWrongSpec)) patchWrongCard

/-- THE TIED CARD OF 'marcheslaw40.PatchTells'. -/
def patchTellsCard : Claim7 := { stood := { row := patchTellsRow, standIns := [], harness := (true, "0e4d74e08126959e2da6481915a023b63b511b97c780d8574744ba77ecc4c601"), looks := true }, kinds := [], alts := [], laidByText := true, laidKinds := [.data, .data, .data, .data, .sentinel, .sentinel, .listed, .data, .pinned], laidTests := true, laidLooks := .later }
def PatchTellsCardSaid : Prop := Claim7.holds Tryz.pinned (.plain (OpenSpec.ofChange patchTellsSpec)) patchTellsCard

/-- THE TIED CARD OF 'marcheslaw40.PatchSmall'. -/
def patchSmallCard : Claim7 := { stood := { row := patchSmallRow, standIns := [], harness := (true, "0e4d74e08126959e2da6481915a023b63b511b97c780d8574744ba77ecc4c601"), looks := true }, kinds := [], alts := [], laidByText := true, laidKinds := [.data, .data, .data, .data, .sentinel, .sentinel, .listed, .data, .pinned], laidTests := true, laidLooks := .later }
def PatchSmallCardSaid : Prop := Claim7.holds Tryz.pinned (.plain (OpenSpec.ofChange patchSmallSpec)) patchSmallCard

/-- THE SECOND FORM's CARD OF 'marcheslaw40.PatchSafe'. -/
def patchSafeUptoCard : Claim7 := { stood := { row := patchSafeUptoRow, standIns := [], harness := (true, "0e4d74e08126959e2da6481915a023b63b511b97c780d8574744ba77ecc4c601"), looks := true }, kinds := [], alts := [], laidByText := true, laidKinds := [.data, .data, .data, .data, .sentinel, .sentinel, .listed, .data, .pinned], laidTests := true, laidLooks := .later }
def PatchSafeUptoCardSaid : Prop := Claim7.holds Tryz.pinned (.plain (OpenSpec.upto patchSafeSpec)) patchSafeUptoCard

/-- THE SECOND FORM's CARD OF 'marcheslaw40.PatchSame'. -/
def patchSameUptoCard : Claim7 := { stood := { row := patchSameUptoRow, standIns := [], harness := (true, "0e4d74e08126959e2da6481915a023b63b511b97c780d8574744ba77ecc4c601"), looks := true }, kinds := [], alts := [], laidByText := true, laidKinds := [.data, .data, .data, .data, .sentinel, .sentinel, .listed, .data, .pinned], laidTests := true, laidLooks := .later }
def PatchSameUptoCardSaid : Prop := Claim7.holds Tryz.pinned (.plain (OpenSpec.upto patchSameSpec)) patchSameUptoCard

/-- THE SECOND FORM's CARD OF 'marcheslaw40.PatchFits'. -/
def patchFitsUptoCard : Claim7 := { stood := { row := patchFitsUptoRow, standIns := [], harness := (true, "0e4d74e08126959e2da6481915a023b63b511b97c780d8574744ba77ecc4c601"), looks := true }, kinds := [], alts := [], laidByText := true, laidKinds := [.data, .data, .data, .data, .sentinel, .sentinel, .listed, .data, .pinned], laidTests := true, laidLooks := .later }
def PatchFitsUptoCardSaid : Prop := Claim7.holds Tryz.pinned (.plain (OpenSpec.upto patchFitsSpec)) patchFitsUptoCard

/-- THE SECOND FORM's CARD OF 'marcheslaw40.PatchTime'. -/
def patchTimeUptoCard : Claim7 := { stood := { row := patchTimeUptoRow, standIns := [], harness := (true, "0e4d74e08126959e2da6481915a023b63b511b97c780d8574744ba77ecc4c601"), looks := true }, kinds := [], alts := [], laidByText := true, laidKinds := [.data, .data, .data, .data, .sentinel, .sentinel, .listed, .data, .pinned], laidTests := true, laidLooks := .later }
def PatchTimeUptoCardSaid : Prop := Claim7.holds Tryz.pinned (.plain (OpenSpec.upto patchTimeSpec)) patchTimeUptoCard

/-- THE SECOND FORM's CARD OF 'marcheslaw40.PatchChecks'. -/
def patchChecksUptoCard : Claim7 := { stood := { row := patchChecksUptoRow, standIns := [], harness := (true, "0e4d74e08126959e2da6481915a023b63b511b97c780d8574744ba77ecc4c601"), looks := true }, kinds := [], alts := [], laidByText := true, laidKinds := [.data, .data, .data, .data, .sentinel, .sentinel, .listed, .data, .pinned], laidTests := true, laidLooks := .later }
def PatchChecksUptoCardSaid : Prop := Claim7.holds Tryz.pinned (.plain (OpenSpec.upto patchChecksSpec)) patchChecksUptoCard

/-- THE SECOND FORM's CARD OF 'marcheslaw40.PatchMasks'. -/
def patchMasksUptoCard : Claim7 := { stood := { row := patchMasksUptoRow, standIns := [], harness := (true, "0e4d74e08126959e2da6481915a023b63b511b97c780d8574744ba77ecc4c601"), looks := true }, kinds := [], alts := [], laidByText := true, laidKinds := [.data, .data, .data, .data, .sentinel, .sentinel, .listed, .data, .pinned], laidTests := true, laidLooks := .later }
def PatchMasksUptoCardSaid : Prop := Claim7.holds Tryz.pinned (.plain (OpenSpec.upto patchMasksSpec)) patchMasksUptoCard

/-- THE SECOND FORM's CARD OF 'marcheslaw40.PatchPlace'. -/
def patchPlaceUptoCard : Claim7 := { stood := { row := patchPlaceUptoRow, standIns := [], harness := (true, "0e4d74e08126959e2da6481915a023b63b511b97c780d8574744ba77ecc4c601"), looks := true }, kinds := [], alts := [], laidByText := true, laidKinds := [.data, .data, .data, .data, .sentinel, .sentinel, .listed, .data, .pinned], laidTests := true, laidLooks := .later }
def PatchPlaceUptoCardSaid : Prop := Claim7.holds Tryz.pinned (.plain (OpenSpec.upto patchPlaceSpec)) patchPlaceUptoCard

/-- THE SECOND FORM's CARD OF 'marcheslaw40.PatchWrong'. -/
def patchWrongUptoCard : Claim7 := { stood := { row := patchWrongUptoRow, standIns := [], harness := (true, "0e4d74e08126959e2da6481915a023b63b511b97c780d8574744ba77ecc4c601"), looks := true }, kinds := [], alts := [], laidByText := true, laidKinds := [.data, .data, .data, .data, .sentinel, .sentinel, .listed, .data, .pinned], laidTests := true, laidLooks := .later }
def PatchWrongUptoCardSaid : Prop := Claim7.holds Tryz.pinned (.plain (OpenSpec.upto patchWrongSpec)) patchWrongUptoCard

/-- THE SECOND FORM's CARD OF 'marcheslaw40.PatchTells'. -/
def patchTellsUptoCard : Claim7 := { stood := { row := patchTellsUptoRow, standIns := [], harness := (true, "0e4d74e08126959e2da6481915a023b63b511b97c780d8574744ba77ecc4c601"), looks := true }, kinds := [], alts := [], laidByText := true, laidKinds := [.data, .data, .data, .data, .sentinel, .sentinel, .listed, .data, .pinned], laidTests := true, laidLooks := .later }
def PatchTellsUptoCardSaid : Prop := Claim7.holds Tryz.pinned (.plain (OpenSpec.upto patchTellsSpec)) patchTellsUptoCard

/-- THE SECOND FORM's CARD OF 'marcheslaw40.PatchSmall'. -/
def patchSmallUptoCard : Claim7 := { stood := { row := patchSmallUptoRow, standIns := [], harness := (true, "0e4d74e08126959e2da6481915a023b63b511b97c780d8574744ba77ecc4c601"), looks := true }, kinds := [], alts := [], laidByText := true, laidKinds := [.data, .data, .data, .data, .sentinel, .sentinel, .listed, .data, .pinned], laidTests := true, laidLooks := .later }
def PatchSmallUptoCardSaid : Prop := Claim7.holds Tryz.pinned (.plain (OpenSpec.upto patchSmallSpec)) patchSmallUptoCard
end Rows
end Go.Proofs.YtdhikpkecmaplaaGreatDoor
