/-
  DERIVED. GIVEN WITH THE SEED: THE CARDS: each row of YtkkcpckgnfcncaaDoorRows.lean that lists a variable, with what it lists TIED to the program's text (the seventh form; the later family's looks); each row that meets fmt, with fmt's text TOLD by the authors' own Lean function (tested against real Go, not proved from fmt's source: count such statements apart). THE CARD IS WHAT COUNTS. Prove the row's statement (the work); the ties are given (YtkkcpckgnfcncaaDoorTie.lean); close each card by the builder's one call (the guide's Derived/Test/ToyasCard.lean, 'card_holds'). Laid BY PROGRAM, IN A SANDBOX (cutbox-door.mjs). By AI agents, Wed Nov 11 2026. No macro, syntax, notation, axiom, sorry.
-/
import Derived.Test.YtkkcpckgnfcncaaDoorRows
import GoSem.ClaimSeven
namespace Go.Proofs.YtkkcpckgnfcncaaDoor
namespace Rows

/-- THE TIED CARD OF 'buttresslaw18.DiskFirm'. -/
def diskFirmCard : Claim7 := { stood := { row := diskFirmRow, standIns := [], harness := (true, "0d61c99893691ef36923acf6822946abfdb1b030d980c2d5b8178fb61b9429ec"), looks := true }, kinds := [], alts := [], laidByText := true, laidKinds := [.data, .pinned], laidTests := true, laidLooks := .later }
def DiskFirmCardSaid : Prop := Claim7.holds Tryd.pinned (.plain (OpenSpec.ofChange diskFirmSpec)) diskFirmCard

/-- THE TIED CARD OF 'buttresslaw18.DiskNil'. -/
def diskNilCard : Claim7 := { stood := { row := diskNilRow, standIns := [], harness := (true, "0d61c99893691ef36923acf6822946abfdb1b030d980c2d5b8178fb61b9429ec"), looks := true }, kinds := [], alts := [], laidByText := true, laidKinds := [.data, .pinned], laidTests := true, laidLooks := .later }
def DiskNilCardSaid : Prop := Claim7.holds Tryd.pinned (.plain (OpenSpec.ofChange diskNilSpec)) diskNilCard

/-- THE TIED CARD OF 'buttresslaw18.DiskApart'. -/
def diskApartCard : Claim7 := { stood := { row := diskApartRow, standIns := [], harness := (true, "0d61c99893691ef36923acf6822946abfdb1b030d980c2d5b8178fb61b9429ec"), looks := true }, kinds := [], alts := [], laidByText := true, laidKinds := [.data, .pinned], laidTests := true, laidLooks := .later }
def DiskApartCardSaid : Prop := Claim7.holds Tryd.pinned (.plain (OpenSpec.ofChange diskApartSpec)) diskApartCard

/-- THE TIED CARD OF 'buttresslaw18.DiskMore'. -/
def diskMoreCard : Claim7 := { stood := { row := diskMoreRow, standIns := [], harness := (true, "0d61c99893691ef36923acf6822946abfdb1b030d980c2d5b8178fb61b9429ec"), looks := true }, kinds := [], alts := [], laidByText := true, laidKinds := [.data, .pinned], laidTests := true, laidLooks := .later }
def DiskMoreCardSaid : Prop := Claim7.holds Tryd.pinned (.plain (OpenSpec.ofChange diskMoreSpec)) diskMoreCard

/-- THE SECOND FORM's CARD OF 'buttresslaw18.DiskFirm'. -/
def diskFirmUptoCard : Claim7 := { stood := { row := diskFirmUptoRow, standIns := [], harness := (true, "0d61c99893691ef36923acf6822946abfdb1b030d980c2d5b8178fb61b9429ec"), looks := true }, kinds := [], alts := [], laidByText := true, laidKinds := [.data, .pinned], laidTests := true, laidLooks := .later }
def DiskFirmUptoCardSaid : Prop := Claim7.holds Tryd.pinned (.plain (OpenSpec.upto diskFirmSpec)) diskFirmUptoCard

/-- THE SECOND FORM's CARD OF 'buttresslaw18.DiskNil'. -/
def diskNilUptoCard : Claim7 := { stood := { row := diskNilUptoRow, standIns := [], harness := (true, "0d61c99893691ef36923acf6822946abfdb1b030d980c2d5b8178fb61b9429ec"), looks := true }, kinds := [], alts := [], laidByText := true, laidKinds := [.data, .pinned], laidTests := true, laidLooks := .later }
def DiskNilUptoCardSaid : Prop := Claim7.holds Tryd.pinned (.plain (OpenSpec.upto diskNilSpec)) diskNilUptoCard

/-- THE SECOND FORM's CARD OF 'buttresslaw18.DiskApart'. -/
def diskApartUptoCard : Claim7 := { stood := { row := diskApartUptoRow, standIns := [], harness := (true, "0d61c99893691ef36923acf6822946abfdb1b030d980c2d5b8178fb61b9429ec"), looks := true }, kinds := [], alts := [], laidByText := true, laidKinds := [.data, .pinned], laidTests := true, laidLooks := .later }
def DiskApartUptoCardSaid : Prop := Claim7.holds Tryd.pinned (.plain (OpenSpec.upto diskApartSpec)) diskApartUptoCard

/-- THE SECOND FORM's CARD OF 'buttresslaw18.DiskMore'. -/
def diskMoreUptoCard : Claim7 := { stood := { row := diskMoreUptoRow, standIns := [], harness := (true, "0d61c99893691ef36923acf6822946abfdb1b030d980c2d5b8178fb61b9429ec"), looks := true }, kinds := [], alts := [], laidByText := true, laidKinds := [.data, .pinned], laidTests := true, laidLooks := .later }
def DiskMoreUptoCardSaid : Prop := Claim7.holds Tryd.pinned (.plain (OpenSpec.upto diskMoreSpec)) diskMoreUptoCard
end Rows
end Go.Proofs.YtkkcpckgnfcncaaDoor
