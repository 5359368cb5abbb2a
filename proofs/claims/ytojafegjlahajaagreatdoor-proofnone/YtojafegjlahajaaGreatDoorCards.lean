/-
  DERIVED. GIVEN WITH THE SEED: THE CARDS: each row of YtojafegjlahajaaGreatDoorRows.lean that lists a variable, with what it lists TIED to the program's text (the seventh form; the later family's looks); each row that meets fmt, with fmt's text TOLD by the authors' own Lean function (tested against real Go, not proved from fmt's source: count such statements apart). THE CARD IS WHAT COUNTS. Prove the row's statement (the work); the ties are given (YtojafegjlahajaaGreatDoorTie.lean); close each card by the builder's one call (the guide's Derived/Test/ToyasCard.lean, 'card_holds'). Laid BY PROGRAM, IN A SANDBOX (cutbox-door.mjs). By AI agents, Wed Nov 11 2026. No macro, syntax, notation, axiom, sorry.
-/
import Derived.Test.YtojafegjlahajaaGreatDoorRows
import GoSem.ClaimSeven
namespace Go.Proofs.YtojafegjlahajaaGreatDoor
namespace Rows

/-- THE TIED CARD OF 'buttresslaw12.MerkleSums'. -/
def merkleSumsCard : Claim7 := { stood := { row := merkleSumsRow, standIns := [], harness := (true, "c6c8a51ec12fc40a09badfac04dc547d3b235d0aa19123fb9236b4b20d0729aa"), looks := true }, kinds := [], alts := [], laidByText := true, laidKinds := [.data, .data, .data, .pinned], laidTests := true, laidLooks := .later }
def MerkleSumsCardSaid : Prop := Claim7.holds Tryz.pinned (.plain (OpenSpec.ofChange merkleSumsSpec)) merkleSumsCard

/-- THE TIED CARD OF 'buttresslaw12.MerkleAlike'. -/
def merkleAlikeCard : Claim7 := { stood := { row := merkleAlikeRow, standIns := [], harness := (true, "c6c8a51ec12fc40a09badfac04dc547d3b235d0aa19123fb9236b4b20d0729aa"), looks := true }, kinds := [], alts := [], laidByText := true, laidKinds := [.data, .data, .data, .pinned], laidTests := true, laidLooks := .later }
def MerkleAlikeCardSaid : Prop := Claim7.holds Tryz.pinned (.plain (OpenSpec.ofChange merkleAlikeSpec)) merkleAlikeCard

/-- THE TIED CARD OF 'buttresslaw12.MerkleWalk'. -/
def merkleWalkCard : Claim7 := { stood := { row := merkleWalkRow, standIns := [], harness := (true, "c6c8a51ec12fc40a09badfac04dc547d3b235d0aa19123fb9236b4b20d0729aa"), looks := true }, kinds := [], alts := [], laidByText := true, laidKinds := [.data, .data, .data, .pinned], laidTests := true, laidLooks := .later }
def MerkleWalkCardSaid : Prop := Claim7.holds Tryz.pinned (.plain (OpenSpec.ofChange merkleWalkSpec)) merkleWalkCard

/-- THE TIED CARD OF 'buttresslaw12.MerkleDoes'. -/
def merkleDoesCard : Claim7 := { stood := { row := merkleDoesRow, standIns := [], harness := (true, "c6c8a51ec12fc40a09badfac04dc547d3b235d0aa19123fb9236b4b20d0729aa"), looks := true }, kinds := [], alts := [], laidByText := true, laidKinds := [.data, .data, .data, .pinned], laidTests := true, laidLooks := .later }
def MerkleDoesCardSaid : Prop := Claim7.holds Tryz.pinned (.plain (OpenSpec.ofChange merkleDoesSpec)) merkleDoesCard

/-- THE TIED CARD OF 'buttresslaw12.MerkleNone'. -/
def merkleNoneCard : Claim7 := { stood := { row := merkleNoneRow, standIns := [], harness := (true, "c6c8a51ec12fc40a09badfac04dc547d3b235d0aa19123fb9236b4b20d0729aa"), looks := true }, kinds := [], alts := [], laidByText := true, laidKinds := [.data, .data, .data, .pinned], laidTests := true, laidLooks := .later }
def MerkleNoneCardSaid : Prop := Claim7.holds Tryz.pinned (.plain (OpenSpec.ofChange merkleNoneSpec)) merkleNoneCard

/-- THE TIED CARD OF 'buttresslaw24.SessionNone'. -/
def sessionNoneCard : Claim7 := { stood := { row := sessionNoneRow, standIns := [], harness := (true, "c6c8a51ec12fc40a09badfac04dc547d3b235d0aa19123fb9236b4b20d0729aa"), looks := true }, kinds := [], alts := [], laidByText := true, laidKinds := [.data, .data, .data, .pinned], laidTests := true, laidLooks := .later }
def SessionNoneCardSaid : Prop := Claim7.holds Tryz.pinned (.plain (OpenSpec.ofChange sessionNoneSpec)) sessionNoneCard

/-- THE TIED CARD OF 'buttresslaw24.SessionOne'. -/
def sessionOneCard : Claim7 := { stood := { row := sessionOneRow, standIns := [], harness := (true, "c6c8a51ec12fc40a09badfac04dc547d3b235d0aa19123fb9236b4b20d0729aa"), looks := true }, kinds := [], alts := [], laidByText := true, laidKinds := [.data, .data, .data, .pinned], laidTests := true, laidLooks := .later }
def SessionOneCardSaid : Prop := Claim7.holds Tryz.pinned (.plain (OpenSpec.ofChange sessionOneSpec)) sessionOneCard

/-- THE TIED CARD OF 'buttresslaw24.SessionLies'. -/
def sessionLiesCard : Claim7 := { stood := { row := sessionLiesRow, standIns := [], harness := (true, "c6c8a51ec12fc40a09badfac04dc547d3b235d0aa19123fb9236b4b20d0729aa"), looks := true }, kinds := [], alts := [], laidByText := true, laidKinds := [.data, .data, .data, .pinned], laidTests := true, laidLooks := .later }
def SessionLiesCardSaid : Prop := Claim7.holds Tryz.pinned (.plain (OpenSpec.ofChange sessionLiesSpec)) sessionLiesCard

/-- THE TIED CARD OF 'buttresslaw24.SessionFinds'. -/
def sessionFindsCard : Claim7 := { stood := { row := sessionFindsRow, standIns := [], harness := (true, "c6c8a51ec12fc40a09badfac04dc547d3b235d0aa19123fb9236b4b20d0729aa"), looks := true }, kinds := [], alts := [], laidByText := true, laidKinds := [.data, .data, .data, .pinned], laidTests := true, laidLooks := .later }
def SessionFindsCardSaid : Prop := Claim7.holds Tryz.pinned (.plain (OpenSpec.ofChange sessionFindsSpec)) sessionFindsCard

/-- THE TIED CARD OF 'buttresslaw13.ProofNone'. -/
def proofNoneCard : Claim7 := { stood := { row := proofNoneRow, standIns := [], harness := (true, "c6c8a51ec12fc40a09badfac04dc547d3b235d0aa19123fb9236b4b20d0729aa"), looks := true }, kinds := [], alts := [], laidByText := true, laidKinds := [.data, .data, .data, .pinned], laidTests := true, laidLooks := .later }
def ProofNoneCardSaid : Prop := Claim7.holds Tryz.pinned (.plain (OpenSpec.ofChange proofNoneSpec)) proofNoneCard

/-- THE TIED CARD OF 'buttresslaw13.ProofOne'. -/
def proofOneCard : Claim7 := { stood := { row := proofOneRow, standIns := [], harness := (true, "c6c8a51ec12fc40a09badfac04dc547d3b235d0aa19123fb9236b4b20d0729aa"), looks := true }, kinds := [], alts := [], laidByText := true, laidKinds := [.data, .data, .data, .pinned], laidTests := true, laidLooks := .later }
def ProofOneCardSaid : Prop := Claim7.holds Tryz.pinned (.plain (OpenSpec.ofChange proofOneSpec)) proofOneCard

/-- THE TIED CARD OF 'buttresslaw13.ProofBack'. -/
def proofBackCard : Claim7 := { stood := { row := proofBackRow, standIns := [], harness := (true, "c6c8a51ec12fc40a09badfac04dc547d3b235d0aa19123fb9236b4b20d0729aa"), looks := true }, kinds := [], alts := [], laidByText := true, laidKinds := [.data, .data, .data, .pinned], laidTests := true, laidLooks := .later }
def ProofBackCardSaid : Prop := Claim7.holds Tryz.pinned (.plain (OpenSpec.ofChange proofBackSpec)) proofBackCard

/-- THE SECOND FORM's CARD OF 'buttresslaw12.MerkleSums'. -/
def merkleSumsUptoCard : Claim7 := { stood := { row := merkleSumsUptoRow, standIns := [], harness := (true, "c6c8a51ec12fc40a09badfac04dc547d3b235d0aa19123fb9236b4b20d0729aa"), looks := true }, kinds := [], alts := [], laidByText := true, laidKinds := [.data, .data, .data, .pinned], laidTests := true, laidLooks := .later }
def MerkleSumsUptoCardSaid : Prop := Claim7.holds Tryz.pinned (.plain (OpenSpec.upto merkleSumsSpec)) merkleSumsUptoCard

/-- THE SECOND FORM's CARD OF 'buttresslaw12.MerkleAlike'. -/
def merkleAlikeUptoCard : Claim7 := { stood := { row := merkleAlikeUptoRow, standIns := [], harness := (true, "c6c8a51ec12fc40a09badfac04dc547d3b235d0aa19123fb9236b4b20d0729aa"), looks := true }, kinds := [], alts := [], laidByText := true, laidKinds := [.data, .data, .data, .pinned], laidTests := true, laidLooks := .later }
def MerkleAlikeUptoCardSaid : Prop := Claim7.holds Tryz.pinned (.plain (OpenSpec.upto merkleAlikeSpec)) merkleAlikeUptoCard

/-- THE SECOND FORM's CARD OF 'buttresslaw12.MerkleWalk'. -/
def merkleWalkUptoCard : Claim7 := { stood := { row := merkleWalkUptoRow, standIns := [], harness := (true, "c6c8a51ec12fc40a09badfac04dc547d3b235d0aa19123fb9236b4b20d0729aa"), looks := true }, kinds := [], alts := [], laidByText := true, laidKinds := [.data, .data, .data, .pinned], laidTests := true, laidLooks := .later }
def MerkleWalkUptoCardSaid : Prop := Claim7.holds Tryz.pinned (.plain (OpenSpec.upto merkleWalkSpec)) merkleWalkUptoCard

/-- THE SECOND FORM's CARD OF 'buttresslaw12.MerkleDoes'. -/
def merkleDoesUptoCard : Claim7 := { stood := { row := merkleDoesUptoRow, standIns := [], harness := (true, "c6c8a51ec12fc40a09badfac04dc547d3b235d0aa19123fb9236b4b20d0729aa"), looks := true }, kinds := [], alts := [], laidByText := true, laidKinds := [.data, .data, .data, .pinned], laidTests := true, laidLooks := .later }
def MerkleDoesUptoCardSaid : Prop := Claim7.holds Tryz.pinned (.plain (OpenSpec.upto merkleDoesSpec)) merkleDoesUptoCard

/-- THE SECOND FORM's CARD OF 'buttresslaw12.MerkleNone'. -/
def merkleNoneUptoCard : Claim7 := { stood := { row := merkleNoneUptoRow, standIns := [], harness := (true, "c6c8a51ec12fc40a09badfac04dc547d3b235d0aa19123fb9236b4b20d0729aa"), looks := true }, kinds := [], alts := [], laidByText := true, laidKinds := [.data, .data, .data, .pinned], laidTests := true, laidLooks := .later }
def MerkleNoneUptoCardSaid : Prop := Claim7.holds Tryz.pinned (.plain (OpenSpec.upto merkleNoneSpec)) merkleNoneUptoCard

/-- THE SECOND FORM's CARD OF 'buttresslaw24.SessionNone'. -/
def sessionNoneUptoCard : Claim7 := { stood := { row := sessionNoneUptoRow, standIns := [], harness := (true, "c6c8a51ec12fc40a09badfac04dc547d3b235d0aa19123fb9236b4b20d0729aa"), looks := true }, kinds := [], alts := [], laidByText := true, laidKinds := [.data, .data, .data, .pinned], laidTests := true, laidLooks := .later }
def SessionNoneUptoCardSaid : Prop := Claim7.holds Tryz.pinned (.plain (OpenSpec.upto sessionNoneSpec)) sessionNoneUptoCard

/-- THE SECOND FORM's CARD OF 'buttresslaw24.SessionOne'. -/
def sessionOneUptoCard : Claim7 := { stood := { row := sessionOneUptoRow, standIns := [], harness := (true, "c6c8a51ec12fc40a09badfac04dc547d3b235d0aa19123fb9236b4b20d0729aa"), looks := true }, kinds := [], alts := [], laidByText := true, laidKinds := [.data, .data, .data, .pinned], laidTests := true, laidLooks := .later }
def SessionOneUptoCardSaid : Prop := Claim7.holds Tryz.pinned (.plain (OpenSpec.upto sessionOneSpec)) sessionOneUptoCard

/-- THE SECOND FORM's CARD OF 'buttresslaw24.SessionLies'. -/
def sessionLiesUptoCard : Claim7 := { stood := { row := sessionLiesUptoRow, standIns := [], harness := (true, "c6c8a51ec12fc40a09badfac04dc547d3b235d0aa19123fb9236b4b20d0729aa"), looks := true }, kinds := [], alts := [], laidByText := true, laidKinds := [.data, .data, .data, .pinned], laidTests := true, laidLooks := .later }
def SessionLiesUptoCardSaid : Prop := Claim7.holds Tryz.pinned (.plain (OpenSpec.upto sessionLiesSpec)) sessionLiesUptoCard

/-- THE SECOND FORM's CARD OF 'buttresslaw24.SessionFinds'. -/
def sessionFindsUptoCard : Claim7 := { stood := { row := sessionFindsUptoRow, standIns := [], harness := (true, "c6c8a51ec12fc40a09badfac04dc547d3b235d0aa19123fb9236b4b20d0729aa"), looks := true }, kinds := [], alts := [], laidByText := true, laidKinds := [.data, .data, .data, .pinned], laidTests := true, laidLooks := .later }
def SessionFindsUptoCardSaid : Prop := Claim7.holds Tryz.pinned (.plain (OpenSpec.upto sessionFindsSpec)) sessionFindsUptoCard

/-- THE SECOND FORM's CARD OF 'buttresslaw13.ProofNone'. -/
def proofNoneUptoCard : Claim7 := { stood := { row := proofNoneUptoRow, standIns := [], harness := (true, "c6c8a51ec12fc40a09badfac04dc547d3b235d0aa19123fb9236b4b20d0729aa"), looks := true }, kinds := [], alts := [], laidByText := true, laidKinds := [.data, .data, .data, .pinned], laidTests := true, laidLooks := .later }
def ProofNoneUptoCardSaid : Prop := Claim7.holds Tryz.pinned (.plain (OpenSpec.upto proofNoneSpec)) proofNoneUptoCard

/-- THE SECOND FORM's CARD OF 'buttresslaw13.ProofOne'. -/
def proofOneUptoCard : Claim7 := { stood := { row := proofOneUptoRow, standIns := [], harness := (true, "c6c8a51ec12fc40a09badfac04dc547d3b235d0aa19123fb9236b4b20d0729aa"), looks := true }, kinds := [], alts := [], laidByText := true, laidKinds := [.data, .data, .data, .pinned], laidTests := true, laidLooks := .later }
def ProofOneUptoCardSaid : Prop := Claim7.holds Tryz.pinned (.plain (OpenSpec.upto proofOneSpec)) proofOneUptoCard

/-- THE SECOND FORM's CARD OF 'buttresslaw13.ProofBack'. -/
def proofBackUptoCard : Claim7 := { stood := { row := proofBackUptoRow, standIns := [], harness := (true, "c6c8a51ec12fc40a09badfac04dc547d3b235d0aa19123fb9236b4b20d0729aa"), looks := true }, kinds := [], alts := [], laidByText := true, laidKinds := [.data, .data, .data, .pinned], laidTests := true, laidLooks := .later }
def ProofBackUptoCardSaid : Prop := Claim7.holds Tryz.pinned (.plain (OpenSpec.upto proofBackSpec)) proofBackUptoCard
end Rows
end Go.Proofs.YtojafegjlahajaaGreatDoor
