/-
  DERIVED. GIVEN WITH THE SEED: THE CARDS: each row of YtkkcpckgnfcncaaGreatDoorRows.lean that lists a variable, with what it lists TIED to the program's text (the seventh form; the later family's looks); each row that meets fmt, with fmt's text TOLD by the authors' own Lean function (tested against real Go, not proved from fmt's source: count such statements apart). THE CARD IS WHAT COUNTS. Prove the row's statement (the work); the ties are given (YtkkcpckgnfcncaaGreatDoorTie.lean); close each card by the builder's one call (the guide's Derived/Test/ToyasCard.lean, 'card_holds'). Laid BY PROGRAM, IN A SANDBOX (cutbox-door.mjs). By AI agents, Wed Nov 11 2026. No macro, syntax, notation, axiom, sorry.
-/
import Derived.Test.YtkkcpckgnfcncaaGreatDoorRows
import GoSem.ClaimSeven
namespace Go.Proofs.YtkkcpckgnfcncaaGreatDoor
namespace Rows

/-- THE TIED CARD OF 'buttresslaw18.DiskOwn'. -/
def diskOwnCard : Claim7 := { stood := { row := diskOwnRow, standIns := [], harness := (true, "35e6f25914e457625761e4916fe44550f24d1f414caba9d6c24a12f47f2d6d47"), looks := true }, kinds := [], alts := [], laidByText := true, laidKinds := [.data, .pinned], laidTests := true, laidLooks := .later }
def DiskOwnCardSaid : Prop := Claim7.holds Tryz.pinned (.plain (OpenSpec.ofChange diskOwnSpec)) diskOwnCard

/-- THE TIED CARD OF 'buttresslaw18.DiskTells'. -/
def diskTellsCard : Claim7 := { stood := { row := diskTellsRow, standIns := [], harness := (true, "35e6f25914e457625761e4916fe44550f24d1f414caba9d6c24a12f47f2d6d47"), looks := true }, kinds := [], alts := [], laidByText := true, laidKinds := [.data, .pinned], laidTests := true, laidLooks := .later }
def DiskTellsCardSaid : Prop := Claim7.holds Tryz.pinned (.plain (OpenSpec.ofChange diskTellsSpec)) diskTellsCard

/-- THE TIED CARD OF 'buttresslaw18.DiskEnds'. -/
def diskEndsCard : Claim7 := { stood := { row := diskEndsRow, standIns := [], harness := (true, "35e6f25914e457625761e4916fe44550f24d1f414caba9d6c24a12f47f2d6d47"), looks := true }, kinds := [], alts := [], laidByText := true, laidKinds := [.data, .pinned], laidTests := true, laidLooks := .later }
def DiskEndsCardSaid : Prop := Claim7.holds Tryz.pinned (.plain (OpenSpec.ofChange diskEndsSpec)) diskEndsCard

/-- THE SECOND FORM's CARD OF 'buttresslaw18.DiskOwn'. -/
def diskOwnUptoCard : Claim7 := { stood := { row := diskOwnUptoRow, standIns := [], harness := (true, "35e6f25914e457625761e4916fe44550f24d1f414caba9d6c24a12f47f2d6d47"), looks := true }, kinds := [], alts := [], laidByText := true, laidKinds := [.data, .pinned], laidTests := true, laidLooks := .later }
def DiskOwnUptoCardSaid : Prop := Claim7.holds Tryz.pinned (.plain (OpenSpec.upto diskOwnSpec)) diskOwnUptoCard

/-- THE SECOND FORM's CARD OF 'buttresslaw18.DiskTells'. -/
def diskTellsUptoCard : Claim7 := { stood := { row := diskTellsUptoRow, standIns := [], harness := (true, "35e6f25914e457625761e4916fe44550f24d1f414caba9d6c24a12f47f2d6d47"), looks := true }, kinds := [], alts := [], laidByText := true, laidKinds := [.data, .pinned], laidTests := true, laidLooks := .later }
def DiskTellsUptoCardSaid : Prop := Claim7.holds Tryz.pinned (.plain (OpenSpec.upto diskTellsSpec)) diskTellsUptoCard

/-- THE SECOND FORM's CARD OF 'buttresslaw18.DiskEnds'. -/
def diskEndsUptoCard : Claim7 := { stood := { row := diskEndsUptoRow, standIns := [], harness := (true, "35e6f25914e457625761e4916fe44550f24d1f414caba9d6c24a12f47f2d6d47"), looks := true }, kinds := [], alts := [], laidByText := true, laidKinds := [.data, .pinned], laidTests := true, laidLooks := .later }
def DiskEndsUptoCardSaid : Prop := Claim7.holds Tryz.pinned (.plain (OpenSpec.upto diskEndsSpec)) diskEndsUptoCard
end Rows
end Go.Proofs.YtkkcpckgnfcncaaGreatDoor
