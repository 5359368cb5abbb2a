/-
  No cell of these rows narrows 'for every input' (looked for: loops, veiled, ifaces, maps, wideKeys, modest, calm, conditions, laid).
  DERIVED. THE GIVEN ROWS OF THIS SEAT. 11 by the template 'for every input the law returns true; each argument reads behind the call as it read before'; 0 by the template 'total and deterministic' (their statements: YtodhbhanmdfdeaaGreatTotals.lean).
  GIVEN WITH THE SEED: the statements are not yours to turn. If you find one false, say at which input.
  Laid BY PROGRAM, IN A SANDBOX (cutbox-rows.mjs): the forced cells as the released guide's own fill.sh prints them over the translation 5d4a2c4a4a6cbda4… (all of the seat's roots in one cut). By AI agents, Wed Nov 11 2026. No macro, syntax, notation, axiom, sorry.
-/
import Derived.Test.YtodhbhanmdfdeaaGreatChecked
import GoSem.Claim
import GoSem.ClaimJoined
import GoSem.ClaimMapViews
import Derived.JoinedTies
import Derived.KernelRfl
namespace Go.Proofs.YtodhbhanmdfdeaaGreat
/- THE CELL 'sum', in the pinned program and in every row, IS THE sha256 OF THE DUMP (.gsa) THAT YtodhbhanmdfdeaaGreatProg.lean LOADS. Nothing in Lean hashes anything: it is a label: what it is worth is what the hold of that sum in a sandbox is worth. -/
noncomputable def Tryz.pinned : Pinned := { name := "ytodhbhanmdfdeaagreat", sum := "5d4a2c4a4a6cbda49e2515a3ce4ff7965f76c18fbf5c95ada4533f8a177a8c4f", checked := Tryz.checked }
namespace Rows
def none {H : Type} : Left H := { results := [], args := [] }

/-- 'buttresslaw20.ImagePuts': WHATEVER THE INPUT: true; the input reads as it did. -/
def imagePutsSpec : ChangeSpec := { name := "imagePuts", fn := fun _ => fun
  | [d] => { results := [.lit (.bool true)], args := [d] }
  | _ => none }
def imagePutsRow : OpenClaim := { program := "ytodhbhanmdfdeaagreat", sum := "5d4a2c4a4a6cbda49e2515a3ce4ff7965f76c18fbf5c95ada4533f8a177a8c4f", func := "buttress/buttresslaw20.ImagePuts", spec := "imagePuts", inPlace := ["internal/bytealg.Compare"], unfollowed := true, recurses := true, apart := false }
def ImagePutsSaid : Prop := imagePutsRow.holds Tryz.pinned (OpenSpec.ofChange imagePutsSpec)

/-- ITS FALSE NEIGHBOUR: 'it returns false'. Refute it at one input. -/
def imagePutsWrong : ChangeSpec := { name := "imagePuts", fn := fun _ => fun
  | [d] => { results := [.lit (.bool false)], args := [d] }
  | _ => none }
def ImagePutsWrongFalsely : Prop := imagePutsRow.holds Tryz.pinned (OpenSpec.ofChange imagePutsWrong)

/-- 'buttresslaw20.ImageGets': WHATEVER THE INPUT: true; the input reads as it did. -/
def imageGetsSpec : ChangeSpec := { name := "imageGets", fn := fun _ => fun
  | [d] => { results := [.lit (.bool true)], args := [d] }
  | _ => none }
def imageGetsRow : OpenClaim := { program := "ytodhbhanmdfdeaagreat", sum := "5d4a2c4a4a6cbda49e2515a3ce4ff7965f76c18fbf5c95ada4533f8a177a8c4f", func := "buttress/buttresslaw20.ImageGets", spec := "imageGets", inPlace := ["internal/bytealg.Compare"], unfollowed := true, recurses := true, apart := false }
def ImageGetsSaid : Prop := imageGetsRow.holds Tryz.pinned (OpenSpec.ofChange imageGetsSpec)

/-- ITS FALSE NEIGHBOUR: 'it returns false'. Refute it at one input. -/
def imageGetsWrong : ChangeSpec := { name := "imageGets", fn := fun _ => fun
  | [d] => { results := [.lit (.bool false)], args := [d] }
  | _ => none }
def ImageGetsWrongFalsely : Prop := imageGetsRow.holds Tryz.pinned (OpenSpec.ofChange imageGetsWrong)

/-- 'buttresslaw20.ImageNumbers': WHATEVER THE INPUT: true; the input reads as it did. -/
def imageNumbersSpec : ChangeSpec := { name := "imageNumbers", fn := fun _ => fun
  | [] => { results := [.lit (.bool true)], args := [] }
  | _ => none }
def imageNumbersRow : OpenClaim := { program := "ytodhbhanmdfdeaagreat", sum := "5d4a2c4a4a6cbda49e2515a3ce4ff7965f76c18fbf5c95ada4533f8a177a8c4f", func := "buttress/buttresslaw20.ImageNumbers", spec := "imageNumbers", inPlace := ["internal/bytealg.Compare"], unfollowed := true, recurses := true, apart := false }
def ImageNumbersSaid : Prop := imageNumbersRow.holds Tryz.pinned (OpenSpec.ofChange imageNumbersSpec)

/-- ITS FALSE NEIGHBOUR: 'it returns false'. Refute it at one input. -/
def imageNumbersWrong : ChangeSpec := { name := "imageNumbers", fn := fun _ => fun
  | [] => { results := [.lit (.bool false)], args := [] }
  | _ => none }
def ImageNumbersWrongFalsely : Prop := imageNumbersRow.holds Tryz.pinned (OpenSpec.ofChange imageNumbersWrong)

/-- 'buttresslaw20.ImageBack': WHATEVER THE INPUT: true; the input reads as it did. -/
def imageBackSpec : ChangeSpec := { name := "imageBack", fn := fun _ => fun
  | [d1, d2, d3] => { results := [.lit (.bool true)], args := [d1, d2, d3] }
  | _ => none }
def imageBackRow : OpenClaim := { program := "ytodhbhanmdfdeaagreat", sum := "5d4a2c4a4a6cbda49e2515a3ce4ff7965f76c18fbf5c95ada4533f8a177a8c4f", func := "buttress/buttresslaw20.ImageBack", spec := "imageBack", inPlace := ["internal/bytealg.Compare"], unfollowed := true, recurses := true, apart := false }
def ImageBackSaid : Prop := imageBackRow.holds Tryz.pinned (OpenSpec.ofChange imageBackSpec)

/-- ITS FALSE NEIGHBOUR: 'it returns false'. Refute it at one input. -/
def imageBackWrong : ChangeSpec := { name := "imageBack", fn := fun _ => fun
  | [d1, d2, d3] => { results := [.lit (.bool false)], args := [d1, d2, d3] }
  | _ => none }
def ImageBackWrongFalsely : Prop := imageBackRow.holds Tryz.pinned (OpenSpec.ofChange imageBackWrong)

/-- 'buttresslaw09.SiblingJoins': WHATEVER THE INPUT: true; the input reads as it did. -/
def siblingJoinsSpec : ChangeSpec := { name := "siblingJoins", fn := fun _ => fun
  | [d1, d2, d3] => { results := [.lit (.bool true)], args := [d1, d2, d3] }
  | _ => none }
def siblingJoinsRow : OpenClaim := { program := "ytodhbhanmdfdeaagreat", sum := "5d4a2c4a4a6cbda49e2515a3ce4ff7965f76c18fbf5c95ada4533f8a177a8c4f", func := "buttress/buttresslaw09.SiblingJoins", spec := "siblingJoins", inPlace := ["internal/bytealg.Compare"], unfollowed := true, recurses := true, apart := false }
def SiblingJoinsSaid : Prop := siblingJoinsRow.holds Tryz.pinned (OpenSpec.ofChange siblingJoinsSpec)

/-- ITS FALSE NEIGHBOUR: 'it returns false'. Refute it at one input. -/
def siblingJoinsWrong : ChangeSpec := { name := "siblingJoins", fn := fun _ => fun
  | [d1, d2, d3] => { results := [.lit (.bool false)], args := [d1, d2, d3] }
  | _ => none }
def SiblingJoinsWrongFalsely : Prop := siblingJoinsRow.holds Tryz.pinned (OpenSpec.ofChange siblingJoinsWrong)

/-- 'buttresslaw09.SiblingPuts': WHATEVER THE INPUT: true; the input reads as it did. -/
def siblingPutsSpec : ChangeSpec := { name := "siblingPuts", fn := fun _ => fun
  | [d] => { results := [.lit (.bool true)], args := [d] }
  | _ => none }
def siblingPutsRow : OpenClaim := { program := "ytodhbhanmdfdeaagreat", sum := "5d4a2c4a4a6cbda49e2515a3ce4ff7965f76c18fbf5c95ada4533f8a177a8c4f", func := "buttress/buttresslaw09.SiblingPuts", spec := "siblingPuts", inPlace := ["internal/bytealg.Compare"], unfollowed := true, recurses := true, apart := false }
def SiblingPutsSaid : Prop := siblingPutsRow.holds Tryz.pinned (OpenSpec.ofChange siblingPutsSpec)

/-- ITS FALSE NEIGHBOUR: 'it returns false'. Refute it at one input. -/
def siblingPutsWrong : ChangeSpec := { name := "siblingPuts", fn := fun _ => fun
  | [d] => { results := [.lit (.bool false)], args := [d] }
  | _ => none }
def SiblingPutsWrongFalsely : Prop := siblingPutsRow.holds Tryz.pinned (OpenSpec.ofChange siblingPutsWrong)

/-- 'buttresslaw09.SiblingSteps': WHATEVER THE INPUT: true; the input reads as it did. -/
def siblingStepsSpec : ChangeSpec := { name := "siblingSteps", fn := fun _ => fun
  | [d1, d2, d3] => { results := [.lit (.bool true)], args := [d1, d2, d3] }
  | _ => none }
def siblingStepsRow : OpenClaim := { program := "ytodhbhanmdfdeaagreat", sum := "5d4a2c4a4a6cbda49e2515a3ce4ff7965f76c18fbf5c95ada4533f8a177a8c4f", func := "buttress/buttresslaw09.SiblingSteps", spec := "siblingSteps", inPlace := ["internal/bytealg.Compare"], unfollowed := true, recurses := true, apart := false }
def SiblingStepsSaid : Prop := siblingStepsRow.holds Tryz.pinned (OpenSpec.ofChange siblingStepsSpec)

/-- ITS FALSE NEIGHBOUR: 'it returns false'. Refute it at one input. -/
def siblingStepsWrong : ChangeSpec := { name := "siblingSteps", fn := fun _ => fun
  | [d1, d2, d3] => { results := [.lit (.bool false)], args := [d1, d2, d3] }
  | _ => none }
def SiblingStepsWrongFalsely : Prop := siblingStepsRow.holds Tryz.pinned (OpenSpec.ofChange siblingStepsWrong)

/-- 'buttresslaw09.SiblingFrom': WHATEVER THE INPUT: true; the input reads as it did. -/
def siblingFromSpec : ChangeSpec := { name := "siblingFrom", fn := fun _ => fun
  | [d1, d2] => { results := [.lit (.bool true)], args := [d1, d2] }
  | _ => none }
def siblingFromRow : OpenClaim := { program := "ytodhbhanmdfdeaagreat", sum := "5d4a2c4a4a6cbda49e2515a3ce4ff7965f76c18fbf5c95ada4533f8a177a8c4f", func := "buttress/buttresslaw09.SiblingFrom", spec := "siblingFrom", inPlace := ["internal/bytealg.Compare"], unfollowed := true, recurses := true, apart := false }
def SiblingFromSaid : Prop := siblingFromRow.holds Tryz.pinned (OpenSpec.ofChange siblingFromSpec)

/-- ITS FALSE NEIGHBOUR: 'it returns false'. Refute it at one input. -/
def siblingFromWrong : ChangeSpec := { name := "siblingFrom", fn := fun _ => fun
  | [d1, d2] => { results := [.lit (.bool false)], args := [d1, d2] }
  | _ => none }
def SiblingFromWrongFalsely : Prop := siblingFromRow.holds Tryz.pinned (OpenSpec.ofChange siblingFromWrong)

/-- 'buttresslaw09.SiblingGets': WHATEVER THE INPUT: true; the input reads as it did. -/
def siblingGetsSpec : ChangeSpec := { name := "siblingGets", fn := fun _ => fun
  | [d] => { results := [.lit (.bool true)], args := [d] }
  | _ => none }
def siblingGetsRow : OpenClaim := { program := "ytodhbhanmdfdeaagreat", sum := "5d4a2c4a4a6cbda49e2515a3ce4ff7965f76c18fbf5c95ada4533f8a177a8c4f", func := "buttress/buttresslaw09.SiblingGets", spec := "siblingGets", inPlace := ["internal/bytealg.Compare"], unfollowed := true, recurses := true, apart := false }
def SiblingGetsSaid : Prop := siblingGetsRow.holds Tryz.pinned (OpenSpec.ofChange siblingGetsSpec)

/-- ITS FALSE NEIGHBOUR: 'it returns false'. Refute it at one input. -/
def siblingGetsWrong : ChangeSpec := { name := "siblingGets", fn := fun _ => fun
  | [d] => { results := [.lit (.bool false)], args := [d] }
  | _ => none }
def SiblingGetsWrongFalsely : Prop := siblingGetsRow.holds Tryz.pinned (OpenSpec.ofChange siblingGetsWrong)

/-- 'buttresslaw09.SiblingNumbers': WHATEVER THE INPUT: true; the input reads as it did. -/
def siblingNumbersSpec : ChangeSpec := { name := "siblingNumbers", fn := fun _ => fun
  | [] => { results := [.lit (.bool true)], args := [] }
  | _ => none }
def siblingNumbersRow : OpenClaim := { program := "ytodhbhanmdfdeaagreat", sum := "5d4a2c4a4a6cbda49e2515a3ce4ff7965f76c18fbf5c95ada4533f8a177a8c4f", func := "buttress/buttresslaw09.SiblingNumbers", spec := "siblingNumbers", inPlace := ["internal/bytealg.Compare"], unfollowed := true, recurses := true, apart := false }
def SiblingNumbersSaid : Prop := siblingNumbersRow.holds Tryz.pinned (OpenSpec.ofChange siblingNumbersSpec)

/-- ITS FALSE NEIGHBOUR: 'it returns false'. Refute it at one input. -/
def siblingNumbersWrong : ChangeSpec := { name := "siblingNumbers", fn := fun _ => fun
  | [] => { results := [.lit (.bool false)], args := [] }
  | _ => none }
def SiblingNumbersWrongFalsely : Prop := siblingNumbersRow.holds Tryz.pinned (OpenSpec.ofChange siblingNumbersWrong)

/-- 'buttresslaw09.SiblingBack': WHATEVER THE INPUT: true; the input reads as it did. -/
def siblingBackSpec : ChangeSpec := { name := "siblingBack", fn := fun _ => fun
  | [d1, d2, d3] => { results := [.lit (.bool true)], args := [d1, d2, d3] }
  | _ => none }
def siblingBackRow : OpenClaim := { program := "ytodhbhanmdfdeaagreat", sum := "5d4a2c4a4a6cbda49e2515a3ce4ff7965f76c18fbf5c95ada4533f8a177a8c4f", func := "buttress/buttresslaw09.SiblingBack", spec := "siblingBack", inPlace := ["internal/bytealg.Compare"], unfollowed := true, recurses := true, apart := false }
def SiblingBackSaid : Prop := siblingBackRow.holds Tryz.pinned (OpenSpec.ofChange siblingBackSpec)

/-- ITS FALSE NEIGHBOUR: 'it returns false'. Refute it at one input. -/
def siblingBackWrong : ChangeSpec := { name := "siblingBack", fn := fun _ => fun
  | [d1, d2, d3] => { results := [.lit (.bool false)], args := [d1, d2, d3] }
  | _ => none }
def SiblingBackWrongFalsely : Prop := siblingBackRow.holds Tryz.pinned (OpenSpec.ofChange siblingBackWrong)

/- THE SECOND FORM. 'bulk': how many values and letters a reading holds, each counted each time it is reached (what is shared counts as often as it is met; a slice's spare places count too). A statement '..UptoSaid' is the law's where the arguments, and the package variables that the reading takes, are together of bulk at most 1048576: NARROWER than '..Said'. Prove '..Said' where nothing that the law and all that it calls make is longer than what came in: it says more and counts as full. Else prove '..UptoSaid'. A law counts once. -/
mutual
def uptoBulk {H : Type} : DataW H → Nat
  | .lit (.string bytes) => bytes.length + 1
  | .lit _ => 1
  | .nil => 1
  | .ptr d => uptoBulk d + 1
  | .slice elems spare => uptoBulkAll elems + uptoBulkAll spare + 1
  | .agg parts => uptoBulkAll parts + 1
  | .iface _ d => uptoBulk d + 1
  | .map entries => uptoBulkEntries entries + 1
  | .held _ => 1
def uptoBulkAll {H : Type} : List (DataW H) → Nat
  | [] => 0
  | d :: r => uptoBulk d + uptoBulkAll r
def uptoBulkEntries {H : Type} : List (Lit × DataW H) → Nat
  | [] => 0
  | x :: r => uptoBulkEntry x + uptoBulkEntries r
def uptoBulkEntry {H : Type} : Lit × DataW H → Nat
  | (.string bytes, d) => bytes.length + uptoBulk d + 1
  | (_, d) => uptoBulk d + 1
 end
def uptoSmall : (H : Type) → List (DataW H) → Bool := fun _ ds => decide (uptoBulkAll ds ≤ 1048576)
def OpenSpec.upto (s : _root_.Go.ChangeSpec) : _root_.Go.OpenSpec := { _root_.Go.OpenSpec.ofChange s with cond := some uptoSmall }

/-- 'buttresslaw20.ImagePuts', WHERE WHAT IT READS IS OF BULK AT MOST 1048576: true; the input reads as it did. -/
def imagePutsUptoRow : OpenClaim := { program := "ytodhbhanmdfdeaagreat", sum := "5d4a2c4a4a6cbda49e2515a3ce4ff7965f76c18fbf5c95ada4533f8a177a8c4f", func := "buttress/buttresslaw20.ImagePuts", spec := "imagePuts", inPlace := ["internal/bytealg.Compare"], unfollowed := true, recurses := true, apart := false, narrowed := true }
def ImagePutsUptoSaid : Prop := imagePutsUptoRow.holds Tryz.pinned (OpenSpec.upto imagePutsSpec)

/-- 'buttresslaw20.ImageGets', WHERE WHAT IT READS IS OF BULK AT MOST 1048576: true; the input reads as it did. -/
def imageGetsUptoRow : OpenClaim := { program := "ytodhbhanmdfdeaagreat", sum := "5d4a2c4a4a6cbda49e2515a3ce4ff7965f76c18fbf5c95ada4533f8a177a8c4f", func := "buttress/buttresslaw20.ImageGets", spec := "imageGets", inPlace := ["internal/bytealg.Compare"], unfollowed := true, recurses := true, apart := false, narrowed := true }
def ImageGetsUptoSaid : Prop := imageGetsUptoRow.holds Tryz.pinned (OpenSpec.upto imageGetsSpec)

/-- 'buttresslaw20.ImageNumbers', WHERE WHAT IT READS IS OF BULK AT MOST 1048576: true; the input reads as it did. -/
def imageNumbersUptoRow : OpenClaim := { program := "ytodhbhanmdfdeaagreat", sum := "5d4a2c4a4a6cbda49e2515a3ce4ff7965f76c18fbf5c95ada4533f8a177a8c4f", func := "buttress/buttresslaw20.ImageNumbers", spec := "imageNumbers", inPlace := ["internal/bytealg.Compare"], unfollowed := true, recurses := true, apart := false, narrowed := true }
def ImageNumbersUptoSaid : Prop := imageNumbersUptoRow.holds Tryz.pinned (OpenSpec.upto imageNumbersSpec)

/-- 'buttresslaw20.ImageBack', WHERE WHAT IT READS IS OF BULK AT MOST 1048576: true; the input reads as it did. -/
def imageBackUptoRow : OpenClaim := { program := "ytodhbhanmdfdeaagreat", sum := "5d4a2c4a4a6cbda49e2515a3ce4ff7965f76c18fbf5c95ada4533f8a177a8c4f", func := "buttress/buttresslaw20.ImageBack", spec := "imageBack", inPlace := ["internal/bytealg.Compare"], unfollowed := true, recurses := true, apart := false, narrowed := true }
def ImageBackUptoSaid : Prop := imageBackUptoRow.holds Tryz.pinned (OpenSpec.upto imageBackSpec)

/-- 'buttresslaw09.SiblingJoins', WHERE WHAT IT READS IS OF BULK AT MOST 1048576: true; the input reads as it did. -/
def siblingJoinsUptoRow : OpenClaim := { program := "ytodhbhanmdfdeaagreat", sum := "5d4a2c4a4a6cbda49e2515a3ce4ff7965f76c18fbf5c95ada4533f8a177a8c4f", func := "buttress/buttresslaw09.SiblingJoins", spec := "siblingJoins", inPlace := ["internal/bytealg.Compare"], unfollowed := true, recurses := true, apart := false, narrowed := true }
def SiblingJoinsUptoSaid : Prop := siblingJoinsUptoRow.holds Tryz.pinned (OpenSpec.upto siblingJoinsSpec)

/-- 'buttresslaw09.SiblingPuts', WHERE WHAT IT READS IS OF BULK AT MOST 1048576: true; the input reads as it did. -/
def siblingPutsUptoRow : OpenClaim := { program := "ytodhbhanmdfdeaagreat", sum := "5d4a2c4a4a6cbda49e2515a3ce4ff7965f76c18fbf5c95ada4533f8a177a8c4f", func := "buttress/buttresslaw09.SiblingPuts", spec := "siblingPuts", inPlace := ["internal/bytealg.Compare"], unfollowed := true, recurses := true, apart := false, narrowed := true }
def SiblingPutsUptoSaid : Prop := siblingPutsUptoRow.holds Tryz.pinned (OpenSpec.upto siblingPutsSpec)

/-- 'buttresslaw09.SiblingSteps', WHERE WHAT IT READS IS OF BULK AT MOST 1048576: true; the input reads as it did. -/
def siblingStepsUptoRow : OpenClaim := { program := "ytodhbhanmdfdeaagreat", sum := "5d4a2c4a4a6cbda49e2515a3ce4ff7965f76c18fbf5c95ada4533f8a177a8c4f", func := "buttress/buttresslaw09.SiblingSteps", spec := "siblingSteps", inPlace := ["internal/bytealg.Compare"], unfollowed := true, recurses := true, apart := false, narrowed := true }
def SiblingStepsUptoSaid : Prop := siblingStepsUptoRow.holds Tryz.pinned (OpenSpec.upto siblingStepsSpec)

/-- 'buttresslaw09.SiblingFrom', WHERE WHAT IT READS IS OF BULK AT MOST 1048576: true; the input reads as it did. -/
def siblingFromUptoRow : OpenClaim := { program := "ytodhbhanmdfdeaagreat", sum := "5d4a2c4a4a6cbda49e2515a3ce4ff7965f76c18fbf5c95ada4533f8a177a8c4f", func := "buttress/buttresslaw09.SiblingFrom", spec := "siblingFrom", inPlace := ["internal/bytealg.Compare"], unfollowed := true, recurses := true, apart := false, narrowed := true }
def SiblingFromUptoSaid : Prop := siblingFromUptoRow.holds Tryz.pinned (OpenSpec.upto siblingFromSpec)

/-- 'buttresslaw09.SiblingGets', WHERE WHAT IT READS IS OF BULK AT MOST 1048576: true; the input reads as it did. -/
def siblingGetsUptoRow : OpenClaim := { program := "ytodhbhanmdfdeaagreat", sum := "5d4a2c4a4a6cbda49e2515a3ce4ff7965f76c18fbf5c95ada4533f8a177a8c4f", func := "buttress/buttresslaw09.SiblingGets", spec := "siblingGets", inPlace := ["internal/bytealg.Compare"], unfollowed := true, recurses := true, apart := false, narrowed := true }
def SiblingGetsUptoSaid : Prop := siblingGetsUptoRow.holds Tryz.pinned (OpenSpec.upto siblingGetsSpec)

/-- 'buttresslaw09.SiblingNumbers', WHERE WHAT IT READS IS OF BULK AT MOST 1048576: true; the input reads as it did. -/
def siblingNumbersUptoRow : OpenClaim := { program := "ytodhbhanmdfdeaagreat", sum := "5d4a2c4a4a6cbda49e2515a3ce4ff7965f76c18fbf5c95ada4533f8a177a8c4f", func := "buttress/buttresslaw09.SiblingNumbers", spec := "siblingNumbers", inPlace := ["internal/bytealg.Compare"], unfollowed := true, recurses := true, apart := false, narrowed := true }
def SiblingNumbersUptoSaid : Prop := siblingNumbersUptoRow.holds Tryz.pinned (OpenSpec.upto siblingNumbersSpec)

/-- 'buttresslaw09.SiblingBack', WHERE WHAT IT READS IS OF BULK AT MOST 1048576: true; the input reads as it did. -/
def siblingBackUptoRow : OpenClaim := { program := "ytodhbhanmdfdeaagreat", sum := "5d4a2c4a4a6cbda49e2515a3ce4ff7965f76c18fbf5c95ada4533f8a177a8c4f", func := "buttress/buttresslaw09.SiblingBack", spec := "siblingBack", inPlace := ["internal/bytealg.Compare"], unfollowed := true, recurses := true, apart := false, narrowed := true }
def SiblingBackUptoSaid : Prop := siblingBackUptoRow.holds Tryz.pinned (OpenSpec.upto siblingBackSpec)

end Rows
end Go.Proofs.YtodhbhanmdfdeaaGreat
