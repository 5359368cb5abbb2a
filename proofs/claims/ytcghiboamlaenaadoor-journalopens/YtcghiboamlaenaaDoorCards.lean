/-
  DERIVED. GIVEN WITH THE SEED: THE CARDS: each row of YtcghiboamlaenaaDoorRows.lean that lists a variable, with what it lists TIED to the program's text (the seventh form; the later family's looks); each row that meets fmt, with fmt's text TOLD by the authors' own Lean function (tested against real Go, not proved from fmt's source: count such statements apart). THE CARD IS WHAT COUNTS. Prove the row's statement (the work); the ties are given (YtcghiboamlaenaaDoorTie.lean); close each card by the builder's one call (the guide's Derived/Test/ToyasCard.lean, 'card_holds'). Laid BY PROGRAM, IN A SANDBOX (cutbox-door.mjs). By AI agents, Wed Nov 11 2026. No macro, syntax, notation, axiom, sorry.
-/
import Derived.Test.YtcghiboamlaenaaDoorRows
import GoSem.ClaimSeven
namespace Go.Proofs.YtcghiboamlaenaaDoor
namespace Rows

/-- THE TIED CARD OF 'buttresslaw19.JournalNil'. -/
def journalNilCard : Claim7 := { stood := { row := journalNilRow, standIns := [], harness := (true, "d7486ad8844934a1d75e6b1cb8fedf227c8f4dde98c14adeffecb5b7ed0fd8b4"), looks := true }, kinds := [], alts := [], laidByText := true, laidKinds := [.data, .pinned], laidTests := true, laidLooks := .later }
def JournalNilCardSaid : Prop := Claim7.holds Tryd.pinned (.plain (OpenSpec.ofChange journalNilSpec)) journalNilCard

/-- THE TIED CARD OF 'buttresslaw19.JournalOpens'. -/
def journalOpensCard : Claim7 := { stood := { row := journalOpensRow, standIns := [], harness := (true, "d7486ad8844934a1d75e6b1cb8fedf227c8f4dde98c14adeffecb5b7ed0fd8b4"), looks := true }, kinds := [], alts := [], laidByText := true, laidKinds := [.data, .pinned], laidTests := true, laidLooks := .later }
def JournalOpensCardSaid : Prop := Claim7.holds Tryd.pinned (.plain (OpenSpec.ofChange journalOpensSpec)) journalOpensCard

/-- THE TIED CARD OF 'buttresslaw19.JournalCrash'. -/
def journalCrashCard : Claim7 := { stood := { row := journalCrashRow, standIns := [], harness := (true, "d7486ad8844934a1d75e6b1cb8fedf227c8f4dde98c14adeffecb5b7ed0fd8b4"), looks := true }, kinds := [], alts := [], laidByText := true, laidKinds := [.data, .pinned], laidTests := true, laidLooks := .later }
def JournalCrashCardSaid : Prop := Claim7.holds Tryd.pinned (.plain (OpenSpec.ofChange journalCrashSpec)) journalCrashCard

/-- THE TIED CARD OF 'buttresslaw19.JournalPart'. -/
def journalPartCard : Claim7 := { stood := { row := journalPartRow, standIns := [], harness := (true, "d7486ad8844934a1d75e6b1cb8fedf227c8f4dde98c14adeffecb5b7ed0fd8b4"), looks := true }, kinds := [], alts := [], laidByText := true, laidKinds := [.data, .pinned], laidTests := true, laidLooks := .later }
def JournalPartCardSaid : Prop := Claim7.holds Tryd.pinned (.plain (OpenSpec.ofChange journalPartSpec)) journalPartCard

/-- THE SECOND FORM's CARD OF 'buttresslaw19.JournalNil'. -/
def journalNilUptoCard : Claim7 := { stood := { row := journalNilUptoRow, standIns := [], harness := (true, "d7486ad8844934a1d75e6b1cb8fedf227c8f4dde98c14adeffecb5b7ed0fd8b4"), looks := true }, kinds := [], alts := [], laidByText := true, laidKinds := [.data, .pinned], laidTests := true, laidLooks := .later }
def JournalNilUptoCardSaid : Prop := Claim7.holds Tryd.pinned (.plain (OpenSpec.upto journalNilSpec)) journalNilUptoCard

/-- THE SECOND FORM's CARD OF 'buttresslaw19.JournalOpens'. -/
def journalOpensUptoCard : Claim7 := { stood := { row := journalOpensUptoRow, standIns := [], harness := (true, "d7486ad8844934a1d75e6b1cb8fedf227c8f4dde98c14adeffecb5b7ed0fd8b4"), looks := true }, kinds := [], alts := [], laidByText := true, laidKinds := [.data, .pinned], laidTests := true, laidLooks := .later }
def JournalOpensUptoCardSaid : Prop := Claim7.holds Tryd.pinned (.plain (OpenSpec.upto journalOpensSpec)) journalOpensUptoCard

/-- THE SECOND FORM's CARD OF 'buttresslaw19.JournalCrash'. -/
def journalCrashUptoCard : Claim7 := { stood := { row := journalCrashUptoRow, standIns := [], harness := (true, "d7486ad8844934a1d75e6b1cb8fedf227c8f4dde98c14adeffecb5b7ed0fd8b4"), looks := true }, kinds := [], alts := [], laidByText := true, laidKinds := [.data, .pinned], laidTests := true, laidLooks := .later }
def JournalCrashUptoCardSaid : Prop := Claim7.holds Tryd.pinned (.plain (OpenSpec.upto journalCrashSpec)) journalCrashUptoCard

/-- THE SECOND FORM's CARD OF 'buttresslaw19.JournalPart'. -/
def journalPartUptoCard : Claim7 := { stood := { row := journalPartUptoRow, standIns := [], harness := (true, "d7486ad8844934a1d75e6b1cb8fedf227c8f4dde98c14adeffecb5b7ed0fd8b4"), looks := true }, kinds := [], alts := [], laidByText := true, laidKinds := [.data, .pinned], laidTests := true, laidLooks := .later }
def JournalPartUptoCardSaid : Prop := Claim7.holds Tryd.pinned (.plain (OpenSpec.upto journalPartSpec)) journalPartUptoCard
end Rows
end Go.Proofs.YtcghiboamlaenaaDoor
