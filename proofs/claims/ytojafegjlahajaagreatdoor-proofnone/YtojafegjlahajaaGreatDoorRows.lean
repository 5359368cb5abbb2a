/-
  NARROWER THAN 'FOR EVERY INPUT', by the rows' own cells (each row's printed sentence says how): MerkleSums: laid · MerkleAlike: laid · MerkleWalk: laid · MerkleDoes: laid · MerkleNone: laid · SessionNone: laid · SessionOne: laid · SessionLies: laid · SessionFinds: laid · ProofNone: laid · ProofOne: laid · ProofBack: laid.
  DERIVED. THE GIVEN ROWS OF THIS SEAT. 12 by the template 'for every input the law returns true; each argument reads behind the call as it read before'; 0 by the template 'total and deterministic' (their statements: YtojafegjlahajaaGreatDoorTotals.lean).
  GIVEN WITH THE SEED: the statements are not yours to turn. If you find one false, say at which input.
  Laid BY PROGRAM, IN A SANDBOX (cutbox-rows.mjs): the forced cells as the released guide's own fill.sh prints them over the translation 1e990c30335fec6c… (all of the seat's roots in one cut). By AI agents, Wed Nov 11 2026. No macro, syntax, notation, axiom, sorry.
-/
import Derived.Test.YtojafegjlahajaaGreatDoorChecked
import GoSem.PinnedTables
import GoSem.Claim
import GoSem.ClaimJoined
import GoSem.ClaimMapViews
import Derived.JoinedTies
import Derived.KernelRfl
namespace Go.Proofs.YtojafegjlahajaaGreatDoor
/- THE CELL 'sum', in the pinned program and in every row, IS THE sha256 OF THE DUMP (.gsa) THAT YtojafegjlahajaaGreatDoorProg.lean LOADS. Nothing in Lean hashes anything: it is a label: what it is worth is what the hold of that sum in a sandbox is worth. -/
noncomputable def Tryz.pinned : Pinned := { name := "ytojafegjlahajaagreatdoor", sum := "1e990c30335fec6c6a841bf68632731b824173e56370d2bff3cd3fef1fa24113", checked := Tryz.checked }
namespace Rows
def none {H : Type} : Left H := { results := [], args := [] }

/- WHAT THE LISTED PACKAGE-LEVEL VARIABLES READ AS WHEN THE CALL BEGINS. Each datum BY PROGRAM (the guide's laid-datum.mjs) off the statement by which the dump's own 'gosem.cut.vars' lays the variable. In a bare row this is a premise. The card (YtojafegjlahajaaGreatDoorCards.lean) ties it to the program's text. -/
def laid_unicode_utf8_acceptRanges {H : Type} : DataW H := .agg [.agg [.lit (.int .u8 128), .lit (.int .u8 191)], .agg [.lit (.int .u8 160), .lit (.int .u8 191)], .agg [.lit (.int .u8 128), .lit (.int .u8 159)], .agg [.lit (.int .u8 144), .lit (.int .u8 191)], .agg [.lit (.int .u8 128), .lit (.int .u8 143)], .agg [.lit (.int .u8 0), .lit (.int .u8 0)], .agg [.lit (.int .u8 0), .lit (.int .u8 0)], .agg [.lit (.int .u8 0), .lit (.int .u8 0)], .agg [.lit (.int .u8 0), .lit (.int .u8 0)], .agg [.lit (.int .u8 0), .lit (.int .u8 0)], .agg [.lit (.int .u8 0), .lit (.int .u8 0)], .agg [.lit (.int .u8 0), .lit (.int .u8 0)], .agg [.lit (.int .u8 0), .lit (.int .u8 0)], .agg [.lit (.int .u8 0), .lit (.int .u8 0)], .agg [.lit (.int .u8 0), .lit (.int .u8 0)], .agg [.lit (.int .u8 0), .lit (.int .u8 0)]]
def laid_buttress_sha_begin {H : Type} : DataW H := .agg [.lit (.int .u64 7640891576956012808), .lit (.int .u64 13503953896175478587), .lit (.int .u64 4354685564936845355), .lit (.int .u64 11912009170470909681), .lit (.int .u64 5840696475078001361), .lit (.int .u64 11170449401992604703), .lit (.int .u64 2270897969802886507), .lit (.int .u64 6620516959819538809)]
def laid_buttress_sha_rest {H : Type} : DataW H := .agg [.lit (.int .u64 4794697086780616226), .lit (.int .u64 8158064640168781261), .lit (.int .u64 13096744586834688815), .lit (.int .u64 16840607885511220156), .lit (.int .u64 4131703408338449720), .lit (.int .u64 6480981068601479193), .lit (.int .u64 10538285296894168987), .lit (.int .u64 12329834152419229976), .lit (.int .u64 15566598209576043074), .lit (.int .u64 1334009975649890238), .lit (.int .u64 2608012711638119052), .lit (.int .u64 6128411473006802146), .lit (.int .u64 8268148722764581231), .lit (.int .u64 9286055187155687089), .lit (.int .u64 11230858885718282805), .lit (.int .u64 13951009754708518548), .lit (.int .u64 16472876342353939154), .lit (.int .u64 17275323862435702243), .lit (.int .u64 1135362057144423861), .lit (.int .u64 2597628984639134821), .lit (.int .u64 3308224258029322869), .lit (.int .u64 5365058923640841347), .lit (.int .u64 6679025012923562964), .lit (.int .u64 8573033837759648693), .lit (.int .u64 10970295158949994411), .lit (.int .u64 12119686244451234320), .lit (.int .u64 12683024718118986047), .lit (.int .u64 13788192230050041572), .lit (.int .u64 14330467153632333762), .lit (.int .u64 15395433587784984357), .lit (.int .u64 489312712824947311), .lit (.int .u64 1452737877330783856), .lit (.int .u64 2861767655752347644), .lit (.int .u64 3322285676063803686), .lit (.int .u64 5560940570517711597), .lit (.int .u64 5996557281743188959), .lit (.int .u64 7280758554555802590), .lit (.int .u64 8532644243296465576), .lit (.int .u64 9350256976987008742), .lit (.int .u64 10552545826968843579), .lit (.int .u64 11727347734174303076), .lit (.int .u64 12113106623233404929), .lit (.int .u64 14000437183269869457), .lit (.int .u64 14369950271660146224), .lit (.int .u64 15101387698204529176), .lit (.int .u64 15463397548674623760), .lit (.int .u64 17586052441742319658), .lit (.int .u64 1182934255886127544), .lit (.int .u64 1847814050463011016), .lit (.int .u64 2177327727835720531), .lit (.int .u64 2830643537854262169), .lit (.int .u64 3796741975233480872), .lit (.int .u64 4115178125766777443), .lit (.int .u64 5681478168544905931), .lit (.int .u64 6601373596472566643), .lit (.int .u64 7507060721942968483), .lit (.int .u64 8399075790359081724), .lit (.int .u64 8693463985226723168), .lit (.int .u64 9568029438360202098), .lit (.int .u64 10144078919501101548), .lit (.int .u64 10430055236837252648), .lit (.int .u64 11840083180663258601), .lit (.int .u64 13761210420658862357), .lit (.int .u64 14299343276471374635), .lit (.int .u64 14566680578165727644), .lit (.int .u64 15097957966210449927), .lit (.int .u64 16922976911328602910), .lit (.int .u64 17689382322260857208), .lit (.int .u64 500013540394364858), .lit (.int .u64 748580250866718886), .lit (.int .u64 1242879168328830382), .lit (.int .u64 1977374033974150939), .lit (.int .u64 2944078676154940804), .lit (.int .u64 3659926193048069267), .lit (.int .u64 4368137639120453308), .lit (.int .u64 4836135668995329356), .lit (.int .u64 5532061633213252278), .lit (.int .u64 6448918945643986474), .lit (.int .u64 6902733635092675308), .lit (.int .u64 7801388544844847127)]
/-- One of Go's own tables, pinned by name: the form's constant. -/
def laid_unicode_utf8_first : DataW Unit := Go.Pinned.utf8First

/-- 'buttresslaw12.MerkleSums': WHATEVER THE INPUT: true; the input reads as it did. -/
def merkleSumsSpec : ChangeSpec := { name := "merkleSums", fn := fun _ => fun
  | [d1, d2, d3, d4] => { results := [.lit (.bool true)], args := [d1, d2, d3, d4] }
  | _ => none }
def merkleSumsRow : OpenClaim := { program := "ytojafegjlahajaagreatdoor", sum := "1e990c30335fec6c6a841bf68632731b824173e56370d2bff3cd3fef1fa24113", func := "buttress/buttresslaw12.MerkleSums", spec := "merkleSums", inPlace := ["internal/bytealg.IndexByteString", "internal/bytealg.IndexString", "internal/bytealg.Compare"], unfollowed := true, recurses := true, named := ["unicode/utf8.first", "unicode/utf8.acceptRanges", "buttress/sha.begin", "buttress/sha.rest", "internal/bytealg.MaxLen"], apart := false, laid := [("unicode/utf8.acceptRanges", laid_unicode_utf8_acceptRanges), ("buttress/sha.begin", laid_buttress_sha_begin), ("buttress/sha.rest", laid_buttress_sha_rest), ("unicode/utf8.first", laid_unicode_utf8_first)] }
def MerkleSumsSaid : Prop := merkleSumsRow.holds Tryz.pinned (OpenSpec.ofChange merkleSumsSpec)

/-- ITS FALSE NEIGHBOUR: 'it returns false'. Refute it at one input. -/
def merkleSumsWrong : ChangeSpec := { name := "merkleSums", fn := fun _ => fun
  | [d1, d2, d3, d4] => { results := [.lit (.bool false)], args := [d1, d2, d3, d4] }
  | _ => none }
def MerkleSumsWrongFalsely : Prop := merkleSumsRow.holds Tryz.pinned (OpenSpec.ofChange merkleSumsWrong)

/-- 'buttresslaw12.MerkleAlike': WHATEVER THE INPUT: true; the input reads as it did. -/
def merkleAlikeSpec : ChangeSpec := { name := "merkleAlike", fn := fun _ => fun
  | [d1, d2, d3, d4] => { results := [.lit (.bool true)], args := [d1, d2, d3, d4] }
  | _ => none }
def merkleAlikeRow : OpenClaim := { program := "ytojafegjlahajaagreatdoor", sum := "1e990c30335fec6c6a841bf68632731b824173e56370d2bff3cd3fef1fa24113", func := "buttress/buttresslaw12.MerkleAlike", spec := "merkleAlike", inPlace := ["internal/bytealg.IndexByteString", "internal/bytealg.IndexString", "internal/bytealg.Compare", "internal/bytealg.abigen_runtime_cmpstring", "slices.overlaps[buttress/api.Leaf]", "internal/abi.NoEscape", "slices.overlaps[string]"], unfollowed := true, recurses := true, named := ["unicode/utf8.first", "unicode/utf8.acceptRanges", "buttress/sha.begin", "buttress/sha.rest", "internal/bytealg.MaxLen"], apart := false, laid := [("unicode/utf8.acceptRanges", laid_unicode_utf8_acceptRanges), ("buttress/sha.begin", laid_buttress_sha_begin), ("buttress/sha.rest", laid_buttress_sha_rest), ("unicode/utf8.first", laid_unicode_utf8_first)] }
def MerkleAlikeSaid : Prop := merkleAlikeRow.holds Tryz.pinned (OpenSpec.ofChange merkleAlikeSpec)

/-- ITS FALSE NEIGHBOUR: 'it returns false'. Refute it at one input. -/
def merkleAlikeWrong : ChangeSpec := { name := "merkleAlike", fn := fun _ => fun
  | [d1, d2, d3, d4] => { results := [.lit (.bool false)], args := [d1, d2, d3, d4] }
  | _ => none }
def MerkleAlikeWrongFalsely : Prop := merkleAlikeRow.holds Tryz.pinned (OpenSpec.ofChange merkleAlikeWrong)

/-- 'buttresslaw12.MerkleWalk': WHATEVER THE INPUT: true; the input reads as it did. -/
def merkleWalkSpec : ChangeSpec := { name := "merkleWalk", fn := fun _ => fun
  | [d1, d2] => { results := [.lit (.bool true)], args := [d1, d2] }
  | _ => none }
def merkleWalkRow : OpenClaim := { program := "ytojafegjlahajaagreatdoor", sum := "1e990c30335fec6c6a841bf68632731b824173e56370d2bff3cd3fef1fa24113", func := "buttress/buttresslaw12.MerkleWalk", spec := "merkleWalk", inPlace := ["internal/bytealg.IndexByteString", "internal/bytealg.IndexString", "internal/bytealg.Compare", "internal/bytealg.abigen_runtime_cmpstring", "slices.overlaps[buttress/api.Leaf]", "internal/abi.NoEscape", "slices.overlaps[string]"], unfollowed := true, recurses := true, named := ["unicode/utf8.first", "unicode/utf8.acceptRanges", "buttress/sha.begin", "buttress/sha.rest", "internal/bytealg.MaxLen"], apart := false, laid := [("unicode/utf8.acceptRanges", laid_unicode_utf8_acceptRanges), ("buttress/sha.begin", laid_buttress_sha_begin), ("buttress/sha.rest", laid_buttress_sha_rest), ("unicode/utf8.first", laid_unicode_utf8_first)] }
def MerkleWalkSaid : Prop := merkleWalkRow.holds Tryz.pinned (OpenSpec.ofChange merkleWalkSpec)

/-- ITS FALSE NEIGHBOUR: 'it returns false'. Refute it at one input. -/
def merkleWalkWrong : ChangeSpec := { name := "merkleWalk", fn := fun _ => fun
  | [d1, d2] => { results := [.lit (.bool false)], args := [d1, d2] }
  | _ => none }
def MerkleWalkWrongFalsely : Prop := merkleWalkRow.holds Tryz.pinned (OpenSpec.ofChange merkleWalkWrong)

/-- 'buttresslaw12.MerkleDoes': WHATEVER THE INPUT: true; the input reads as it did. -/
def merkleDoesSpec : ChangeSpec := { name := "merkleDoes", fn := fun _ => fun
  | [d1, d2, d3, d4] => { results := [.lit (.bool true)], args := [d1, d2, d3, d4] }
  | _ => none }
def merkleDoesRow : OpenClaim := { program := "ytojafegjlahajaagreatdoor", sum := "1e990c30335fec6c6a841bf68632731b824173e56370d2bff3cd3fef1fa24113", func := "buttress/buttresslaw12.MerkleDoes", spec := "merkleDoes", inPlace := ["internal/bytealg.IndexByteString", "internal/bytealg.IndexString", "internal/bytealg.Compare", "internal/bytealg.abigen_runtime_cmpstring", "slices.overlaps[buttress/api.Leaf]", "internal/abi.NoEscape", "slices.overlaps[string]"], unfollowed := true, recurses := true, named := ["unicode/utf8.first", "unicode/utf8.acceptRanges", "buttress/sha.begin", "buttress/sha.rest", "internal/bytealg.MaxLen"], apart := false, laid := [("unicode/utf8.acceptRanges", laid_unicode_utf8_acceptRanges), ("buttress/sha.begin", laid_buttress_sha_begin), ("buttress/sha.rest", laid_buttress_sha_rest), ("unicode/utf8.first", laid_unicode_utf8_first)] }
def MerkleDoesSaid : Prop := merkleDoesRow.holds Tryz.pinned (OpenSpec.ofChange merkleDoesSpec)

/-- ITS FALSE NEIGHBOUR: 'it returns false'. Refute it at one input. -/
def merkleDoesWrong : ChangeSpec := { name := "merkleDoes", fn := fun _ => fun
  | [d1, d2, d3, d4] => { results := [.lit (.bool false)], args := [d1, d2, d3, d4] }
  | _ => none }
def MerkleDoesWrongFalsely : Prop := merkleDoesRow.holds Tryz.pinned (OpenSpec.ofChange merkleDoesWrong)

/-- 'buttresslaw12.MerkleNone': WHATEVER THE INPUT: true; the input reads as it did. -/
def merkleNoneSpec : ChangeSpec := { name := "merkleNone", fn := fun _ => fun
  | [d1, d2, d3] => { results := [.lit (.bool true)], args := [d1, d2, d3] }
  | _ => none }
def merkleNoneRow : OpenClaim := { program := "ytojafegjlahajaagreatdoor", sum := "1e990c30335fec6c6a841bf68632731b824173e56370d2bff3cd3fef1fa24113", func := "buttress/buttresslaw12.MerkleNone", spec := "merkleNone", inPlace := ["internal/bytealg.IndexByteString", "internal/bytealg.IndexString", "internal/bytealg.Compare", "internal/bytealg.abigen_runtime_cmpstring", "slices.overlaps[buttress/api.Leaf]", "internal/abi.NoEscape", "slices.overlaps[string]"], unfollowed := true, recurses := true, named := ["unicode/utf8.first", "unicode/utf8.acceptRanges", "buttress/sha.begin", "buttress/sha.rest", "internal/bytealg.MaxLen"], apart := false, laid := [("unicode/utf8.acceptRanges", laid_unicode_utf8_acceptRanges), ("buttress/sha.begin", laid_buttress_sha_begin), ("buttress/sha.rest", laid_buttress_sha_rest), ("unicode/utf8.first", laid_unicode_utf8_first)] }
def MerkleNoneSaid : Prop := merkleNoneRow.holds Tryz.pinned (OpenSpec.ofChange merkleNoneSpec)

/-- ITS FALSE NEIGHBOUR: 'it returns false'. Refute it at one input. -/
def merkleNoneWrong : ChangeSpec := { name := "merkleNone", fn := fun _ => fun
  | [d1, d2, d3] => { results := [.lit (.bool false)], args := [d1, d2, d3] }
  | _ => none }
def MerkleNoneWrongFalsely : Prop := merkleNoneRow.holds Tryz.pinned (OpenSpec.ofChange merkleNoneWrong)

/-- 'buttresslaw24.SessionNone': WHATEVER THE INPUT: true; the input reads as it did. -/
def sessionNoneSpec : ChangeSpec := { name := "sessionNone", fn := fun _ => fun
  | [d1, d2, d3, d4] => { results := [.lit (.bool true)], args := [d1, d2, d3, d4] }
  | _ => none }
def sessionNoneRow : OpenClaim := { program := "ytojafegjlahajaagreatdoor", sum := "1e990c30335fec6c6a841bf68632731b824173e56370d2bff3cd3fef1fa24113", func := "buttress/buttresslaw24.SessionNone", spec := "sessionNone", inPlace := ["internal/bytealg.Compare", "internal/bytealg.IndexByteString", "internal/bytealg.IndexString", "internal/abi.NoEscape"], unfollowed := true, recurses := true, named := ["unicode/utf8.first", "unicode/utf8.acceptRanges", "buttress/sha.begin", "buttress/sha.rest", "internal/bytealg.MaxLen"], apart := false, laid := [("unicode/utf8.acceptRanges", laid_unicode_utf8_acceptRanges), ("buttress/sha.begin", laid_buttress_sha_begin), ("buttress/sha.rest", laid_buttress_sha_rest), ("unicode/utf8.first", laid_unicode_utf8_first)] }
def SessionNoneSaid : Prop := sessionNoneRow.holds Tryz.pinned (OpenSpec.ofChange sessionNoneSpec)

/-- ITS FALSE NEIGHBOUR: 'it returns false'. Refute it at one input. -/
def sessionNoneWrong : ChangeSpec := { name := "sessionNone", fn := fun _ => fun
  | [d1, d2, d3, d4] => { results := [.lit (.bool false)], args := [d1, d2, d3, d4] }
  | _ => none }
def SessionNoneWrongFalsely : Prop := sessionNoneRow.holds Tryz.pinned (OpenSpec.ofChange sessionNoneWrong)

/-- 'buttresslaw24.SessionOne': WHATEVER THE INPUT: true; the input reads as it did. -/
def sessionOneSpec : ChangeSpec := { name := "sessionOne", fn := fun _ => fun
  | [d1, d2, d3, d4] => { results := [.lit (.bool true)], args := [d1, d2, d3, d4] }
  | _ => none }
def sessionOneRow : OpenClaim := { program := "ytojafegjlahajaagreatdoor", sum := "1e990c30335fec6c6a841bf68632731b824173e56370d2bff3cd3fef1fa24113", func := "buttress/buttresslaw24.SessionOne", spec := "sessionOne", inPlace := ["internal/bytealg.Compare", "internal/bytealg.IndexByteString", "internal/bytealg.IndexString", "internal/bytealg.abigen_runtime_cmpstring", "slices.overlaps[buttress/api.Leaf]", "internal/abi.NoEscape", "slices.overlaps[string]"], unfollowed := true, recurses := true, named := ["unicode/utf8.first", "unicode/utf8.acceptRanges", "buttress/sha.begin", "buttress/sha.rest", "internal/bytealg.MaxLen"], apart := false, laid := [("unicode/utf8.acceptRanges", laid_unicode_utf8_acceptRanges), ("buttress/sha.begin", laid_buttress_sha_begin), ("buttress/sha.rest", laid_buttress_sha_rest), ("unicode/utf8.first", laid_unicode_utf8_first)] }
def SessionOneSaid : Prop := sessionOneRow.holds Tryz.pinned (OpenSpec.ofChange sessionOneSpec)

/-- ITS FALSE NEIGHBOUR: 'it returns false'. Refute it at one input. -/
def sessionOneWrong : ChangeSpec := { name := "sessionOne", fn := fun _ => fun
  | [d1, d2, d3, d4] => { results := [.lit (.bool false)], args := [d1, d2, d3, d4] }
  | _ => none }
def SessionOneWrongFalsely : Prop := sessionOneRow.holds Tryz.pinned (OpenSpec.ofChange sessionOneWrong)

/-- 'buttresslaw24.SessionLies': WHATEVER THE INPUT: true; the input reads as it did. -/
def sessionLiesSpec : ChangeSpec := { name := "sessionLies", fn := fun _ => fun
  | [d1, d2, d3, d4] => { results := [.lit (.bool true)], args := [d1, d2, d3, d4] }
  | _ => none }
def sessionLiesRow : OpenClaim := { program := "ytojafegjlahajaagreatdoor", sum := "1e990c30335fec6c6a841bf68632731b824173e56370d2bff3cd3fef1fa24113", func := "buttress/buttresslaw24.SessionLies", spec := "sessionLies", inPlace := ["internal/bytealg.Compare", "internal/bytealg.IndexByteString", "internal/bytealg.IndexString", "internal/bytealg.abigen_runtime_cmpstring", "slices.overlaps[buttress/api.Leaf]", "internal/abi.NoEscape", "slices.overlaps[string]"], unfollowed := true, recurses := true, named := ["unicode/utf8.first", "unicode/utf8.acceptRanges", "buttress/sha.begin", "buttress/sha.rest", "internal/bytealg.MaxLen"], apart := false, laid := [("unicode/utf8.acceptRanges", laid_unicode_utf8_acceptRanges), ("buttress/sha.begin", laid_buttress_sha_begin), ("buttress/sha.rest", laid_buttress_sha_rest), ("unicode/utf8.first", laid_unicode_utf8_first)] }
def SessionLiesSaid : Prop := sessionLiesRow.holds Tryz.pinned (OpenSpec.ofChange sessionLiesSpec)

/-- ITS FALSE NEIGHBOUR: 'it returns false'. Refute it at one input. -/
def sessionLiesWrong : ChangeSpec := { name := "sessionLies", fn := fun _ => fun
  | [d1, d2, d3, d4] => { results := [.lit (.bool false)], args := [d1, d2, d3, d4] }
  | _ => none }
def SessionLiesWrongFalsely : Prop := sessionLiesRow.holds Tryz.pinned (OpenSpec.ofChange sessionLiesWrong)

/-- 'buttresslaw24.SessionFinds': WHATEVER THE INPUT: true; the input reads as it did. -/
def sessionFindsSpec : ChangeSpec := { name := "sessionFinds", fn := fun _ => fun
  | [d1, d2, d3, d4] => { results := [.lit (.bool true)], args := [d1, d2, d3, d4] }
  | _ => none }
def sessionFindsRow : OpenClaim := { program := "ytojafegjlahajaagreatdoor", sum := "1e990c30335fec6c6a841bf68632731b824173e56370d2bff3cd3fef1fa24113", func := "buttress/buttresslaw24.SessionFinds", spec := "sessionFinds", inPlace := ["internal/bytealg.Compare", "internal/bytealg.IndexByteString", "internal/bytealg.IndexString", "internal/bytealg.abigen_runtime_cmpstring", "slices.overlaps[buttress/api.Leaf]", "internal/abi.NoEscape", "slices.overlaps[string]"], unfollowed := true, recurses := true, named := ["unicode/utf8.first", "unicode/utf8.acceptRanges", "buttress/sha.begin", "buttress/sha.rest", "internal/bytealg.MaxLen"], apart := false, laid := [("unicode/utf8.acceptRanges", laid_unicode_utf8_acceptRanges), ("buttress/sha.begin", laid_buttress_sha_begin), ("buttress/sha.rest", laid_buttress_sha_rest), ("unicode/utf8.first", laid_unicode_utf8_first)] }
def SessionFindsSaid : Prop := sessionFindsRow.holds Tryz.pinned (OpenSpec.ofChange sessionFindsSpec)

/-- ITS FALSE NEIGHBOUR: 'it returns false'. Refute it at one input. -/
def sessionFindsWrong : ChangeSpec := { name := "sessionFinds", fn := fun _ => fun
  | [d1, d2, d3, d4] => { results := [.lit (.bool false)], args := [d1, d2, d3, d4] }
  | _ => none }
def SessionFindsWrongFalsely : Prop := sessionFindsRow.holds Tryz.pinned (OpenSpec.ofChange sessionFindsWrong)

/-- 'buttresslaw13.ProofNone': WHATEVER THE INPUT: true; the input reads as it did. -/
def proofNoneSpec : ChangeSpec := { name := "proofNone", fn := fun _ => fun
  | [d] => { results := [.lit (.bool true)], args := [d] }
  | _ => none }
def proofNoneRow : OpenClaim := { program := "ytojafegjlahajaagreatdoor", sum := "1e990c30335fec6c6a841bf68632731b824173e56370d2bff3cd3fef1fa24113", func := "buttress/buttresslaw13.ProofNone", spec := "proofNone", inPlace := ["internal/bytealg.IndexByteString", "internal/bytealg.IndexString", "internal/bytealg.Compare", "internal/abi.NoEscape"], unfollowed := true, recurses := true, named := ["buttress/sha.begin", "buttress/sha.rest", "unicode/utf8.first", "unicode/utf8.acceptRanges", "internal/bytealg.MaxLen"], apart := false, laid := [("unicode/utf8.acceptRanges", laid_unicode_utf8_acceptRanges), ("buttress/sha.begin", laid_buttress_sha_begin), ("buttress/sha.rest", laid_buttress_sha_rest), ("unicode/utf8.first", laid_unicode_utf8_first)] }
def ProofNoneSaid : Prop := proofNoneRow.holds Tryz.pinned (OpenSpec.ofChange proofNoneSpec)

/-- ITS FALSE NEIGHBOUR: 'it returns false'. Refute it at one input. -/
def proofNoneWrong : ChangeSpec := { name := "proofNone", fn := fun _ => fun
  | [d] => { results := [.lit (.bool false)], args := [d] }
  | _ => none }
def ProofNoneWrongFalsely : Prop := proofNoneRow.holds Tryz.pinned (OpenSpec.ofChange proofNoneWrong)

/-- 'buttresslaw13.ProofOne': WHATEVER THE INPUT: true; the input reads as it did. -/
def proofOneSpec : ChangeSpec := { name := "proofOne", fn := fun _ => fun
  | [d1, d2, d3, d4, d5, d6, d7] => { results := [.lit (.bool true)], args := [d1, d2, d3, d4, d5, d6, d7] }
  | _ => none }
def proofOneRow : OpenClaim := { program := "ytojafegjlahajaagreatdoor", sum := "1e990c30335fec6c6a841bf68632731b824173e56370d2bff3cd3fef1fa24113", func := "buttress/buttresslaw13.ProofOne", spec := "proofOne", inPlace := ["internal/bytealg.IndexByteString", "internal/bytealg.IndexString", "internal/bytealg.Compare", "internal/abi.NoEscape"], unfollowed := true, recurses := true, named := ["buttress/sha.begin", "buttress/sha.rest", "unicode/utf8.first", "unicode/utf8.acceptRanges", "internal/bytealg.MaxLen"], apart := false, laid := [("unicode/utf8.acceptRanges", laid_unicode_utf8_acceptRanges), ("buttress/sha.begin", laid_buttress_sha_begin), ("buttress/sha.rest", laid_buttress_sha_rest), ("unicode/utf8.first", laid_unicode_utf8_first)] }
def ProofOneSaid : Prop := proofOneRow.holds Tryz.pinned (OpenSpec.ofChange proofOneSpec)

/-- ITS FALSE NEIGHBOUR: 'it returns false'. Refute it at one input. -/
def proofOneWrong : ChangeSpec := { name := "proofOne", fn := fun _ => fun
  | [d1, d2, d3, d4, d5, d6, d7] => { results := [.lit (.bool false)], args := [d1, d2, d3, d4, d5, d6, d7] }
  | _ => none }
def ProofOneWrongFalsely : Prop := proofOneRow.holds Tryz.pinned (OpenSpec.ofChange proofOneWrong)

/-- 'buttresslaw13.ProofBack': WHATEVER THE INPUT: true; the input reads as it did. -/
def proofBackSpec : ChangeSpec := { name := "proofBack", fn := fun _ => fun
  | [d1, d2, d3] => { results := [.lit (.bool true)], args := [d1, d2, d3] }
  | _ => none }
def proofBackRow : OpenClaim := { program := "ytojafegjlahajaagreatdoor", sum := "1e990c30335fec6c6a841bf68632731b824173e56370d2bff3cd3fef1fa24113", func := "buttress/buttresslaw13.ProofBack", spec := "proofBack", inPlace := ["internal/bytealg.IndexByteString", "internal/bytealg.IndexString", "internal/bytealg.Compare", "internal/abi.NoEscape", "internal/bytealg.abigen_runtime_cmpstring", "slices.overlaps[buttress/api.Leaf]", "slices.overlaps[string]"], unfollowed := true, recurses := true, named := ["buttress/sha.begin", "buttress/sha.rest", "unicode/utf8.first", "unicode/utf8.acceptRanges", "internal/bytealg.MaxLen"], apart := false, laid := [("unicode/utf8.acceptRanges", laid_unicode_utf8_acceptRanges), ("buttress/sha.begin", laid_buttress_sha_begin), ("buttress/sha.rest", laid_buttress_sha_rest), ("unicode/utf8.first", laid_unicode_utf8_first)] }
def ProofBackSaid : Prop := proofBackRow.holds Tryz.pinned (OpenSpec.ofChange proofBackSpec)

/-- ITS FALSE NEIGHBOUR: 'it returns false'. Refute it at one input. -/
def proofBackWrong : ChangeSpec := { name := "proofBack", fn := fun _ => fun
  | [d1, d2, d3] => { results := [.lit (.bool false)], args := [d1, d2, d3] }
  | _ => none }
def ProofBackWrongFalsely : Prop := proofBackRow.holds Tryz.pinned (OpenSpec.ofChange proofBackWrong)

/- THE SECOND FORM. 'bulk': how many values and letters a reading holds, each counted each time it is reached (what is shared counts as often as it is met; a slice's spare places count too). A statement '..UptoSaid' is the law's where the arguments, and the package variables that the reading takes, are together of bulk at most 1048576: NARROWER than '..Said'. Prove '..Said' where nothing that the law and all that it calls make is longer than what came in: it says more and counts as full. Else prove '..UptoSaid'. A law counts once. -/
mutual
def uptoBulk {H : Type} : DataW H → Nat
  | .lit (.string bytes) => bytes.length + 1
  | .lit _ => 1
  | .nil => 1
  | .ptr d => uptoBulk d + 1
  | .slice elems spare => uptoBulkAll elems + uptoBulkAll spare + 1
  | .agg parts => uptoBulkAll parts + 1
  | .iface _ d => uptoBulk d + 1
  | .map entries => uptoBulkEntries entries + 1
  | .held _ => 1
def uptoBulkAll {H : Type} : List (DataW H) → Nat
  | [] => 0
  | d :: r => uptoBulk d + uptoBulkAll r
def uptoBulkEntries {H : Type} : List (Lit × DataW H) → Nat
  | [] => 0
  | x :: r => uptoBulkEntry x + uptoBulkEntries r
def uptoBulkEntry {H : Type} : Lit × DataW H → Nat
  | (.string bytes, d) => bytes.length + uptoBulk d + 1
  | (_, d) => uptoBulk d + 1
 end
def uptoSmall : (H : Type) → List (DataW H) → Bool := fun _ ds => decide (uptoBulkAll ds ≤ 1048576)
def OpenSpec.upto (s : _root_.Go.ChangeSpec) : _root_.Go.OpenSpec := { _root_.Go.OpenSpec.ofChange s with cond := some uptoSmall }

/-- 'buttresslaw12.MerkleSums', WHERE WHAT IT READS IS OF BULK AT MOST 1048576: true; the input reads as it did. -/
def merkleSumsUptoRow : OpenClaim := { program := "ytojafegjlahajaagreatdoor", sum := "1e990c30335fec6c6a841bf68632731b824173e56370d2bff3cd3fef1fa24113", func := "buttress/buttresslaw12.MerkleSums", spec := "merkleSums", inPlace := ["internal/bytealg.IndexByteString", "internal/bytealg.IndexString", "internal/bytealg.Compare"], unfollowed := true, recurses := true, named := ["unicode/utf8.first", "unicode/utf8.acceptRanges", "buttress/sha.begin", "buttress/sha.rest", "internal/bytealg.MaxLen"], apart := false, laid := [("unicode/utf8.acceptRanges", laid_unicode_utf8_acceptRanges), ("buttress/sha.begin", laid_buttress_sha_begin), ("buttress/sha.rest", laid_buttress_sha_rest), ("unicode/utf8.first", laid_unicode_utf8_first)], narrowed := true }
def MerkleSumsUptoSaid : Prop := merkleSumsUptoRow.holds Tryz.pinned (OpenSpec.upto merkleSumsSpec)

/-- 'buttresslaw12.MerkleAlike', WHERE WHAT IT READS IS OF BULK AT MOST 1048576: true; the input reads as it did. -/
def merkleAlikeUptoRow : OpenClaim := { program := "ytojafegjlahajaagreatdoor", sum := "1e990c30335fec6c6a841bf68632731b824173e56370d2bff3cd3fef1fa24113", func := "buttress/buttresslaw12.MerkleAlike", spec := "merkleAlike", inPlace := ["internal/bytealg.IndexByteString", "internal/bytealg.IndexString", "internal/bytealg.Compare", "internal/bytealg.abigen_runtime_cmpstring", "slices.overlaps[buttress/api.Leaf]", "internal/abi.NoEscape", "slices.overlaps[string]"], unfollowed := true, recurses := true, named := ["unicode/utf8.first", "unicode/utf8.acceptRanges", "buttress/sha.begin", "buttress/sha.rest", "internal/bytealg.MaxLen"], apart := false, laid := [("unicode/utf8.acceptRanges", laid_unicode_utf8_acceptRanges), ("buttress/sha.begin", laid_buttress_sha_begin), ("buttress/sha.rest", laid_buttress_sha_rest), ("unicode/utf8.first", laid_unicode_utf8_first)], narrowed := true }
def MerkleAlikeUptoSaid : Prop := merkleAlikeUptoRow.holds Tryz.pinned (OpenSpec.upto merkleAlikeSpec)

/-- 'buttresslaw12.MerkleWalk', WHERE WHAT IT READS IS OF BULK AT MOST 1048576: true; the input reads as it did. -/
def merkleWalkUptoRow : OpenClaim := { program := "ytojafegjlahajaagreatdoor", sum := "1e990c30335fec6c6a841bf68632731b824173e56370d2bff3cd3fef1fa24113", func := "buttress/buttresslaw12.MerkleWalk", spec := "merkleWalk", inPlace := ["internal/bytealg.IndexByteString", "internal/bytealg.IndexString", "internal/bytealg.Compare", "internal/bytealg.abigen_runtime_cmpstring", "slices.overlaps[buttress/api.Leaf]", "internal/abi.NoEscape", "slices.overlaps[string]"], unfollowed := true, recurses := true, named := ["unicode/utf8.first", "unicode/utf8.acceptRanges", "buttress/sha.begin", "buttress/sha.rest", "internal/bytealg.MaxLen"], apart := false, laid := [("unicode/utf8.acceptRanges", laid_unicode_utf8_acceptRanges), ("buttress/sha.begin", laid_buttress_sha_begin), ("buttress/sha.rest", laid_buttress_sha_rest), ("unicode/utf8.first", laid_unicode_utf8_first)], narrowed := true }
def MerkleWalkUptoSaid : Prop := merkleWalkUptoRow.holds Tryz.pinned (OpenSpec.upto merkleWalkSpec)

/-- 'buttresslaw12.MerkleDoes', WHERE WHAT IT READS IS OF BULK AT MOST 1048576: true; the input reads as it did. -/
def merkleDoesUptoRow : OpenClaim := { program := "ytojafegjlahajaagreatdoor", sum := "1e990c30335fec6c6a841bf68632731b824173e56370d2bff3cd3fef1fa24113", func := "buttress/buttresslaw12.MerkleDoes", spec := "merkleDoes", inPlace := ["internal/bytealg.IndexByteString", "internal/bytealg.IndexString", "internal/bytealg.Compare", "internal/bytealg.abigen_runtime_cmpstring", "slices.overlaps[buttress/api.Leaf]", "internal/abi.NoEscape", "slices.overlaps[string]"], unfollowed := true, recurses := true, named := ["unicode/utf8.first", "unicode/utf8.acceptRanges", "buttress/sha.begin", "buttress/sha.rest", "internal/bytealg.MaxLen"], apart := false, laid := [("unicode/utf8.acceptRanges", laid_unicode_utf8_acceptRanges), ("buttress/sha.begin", laid_buttress_sha_begin), ("buttress/sha.rest", laid_buttress_sha_rest), ("unicode/utf8.first", laid_unicode_utf8_first)], narrowed := true }
def MerkleDoesUptoSaid : Prop := merkleDoesUptoRow.holds Tryz.pinned (OpenSpec.upto merkleDoesSpec)

/-- 'buttresslaw12.MerkleNone', WHERE WHAT IT READS IS OF BULK AT MOST 1048576: true; the input reads as it did. -/
def merkleNoneUptoRow : OpenClaim := { program := "ytojafegjlahajaagreatdoor", sum := "1e990c30335fec6c6a841bf68632731b824173e56370d2bff3cd3fef1fa24113", func := "buttress/buttresslaw12.MerkleNone", spec := "merkleNone", inPlace := ["internal/bytealg.IndexByteString", "internal/bytealg.IndexString", "internal/bytealg.Compare", "internal/bytealg.abigen_runtime_cmpstring", "slices.overlaps[buttress/api.Leaf]", "internal/abi.NoEscape", "slices.overlaps[string]"], unfollowed := true, recurses := true, named := ["unicode/utf8.first", "unicode/utf8.acceptRanges", "buttress/sha.begin", "buttress/sha.rest", "internal/bytealg.MaxLen"], apart := false, laid := [("unicode/utf8.acceptRanges", laid_unicode_utf8_acceptRanges), ("buttress/sha.begin", laid_buttress_sha_begin), ("buttress/sha.rest", laid_buttress_sha_rest), ("unicode/utf8.first", laid_unicode_utf8_first)], narrowed := true }
def MerkleNoneUptoSaid : Prop := merkleNoneUptoRow.holds Tryz.pinned (OpenSpec.upto merkleNoneSpec)

/-- 'buttresslaw24.SessionNone', WHERE WHAT IT READS IS OF BULK AT MOST 1048576: true; the input reads as it did. -/
def sessionNoneUptoRow : OpenClaim := { program := "ytojafegjlahajaagreatdoor", sum := "1e990c30335fec6c6a841bf68632731b824173e56370d2bff3cd3fef1fa24113", func := "buttress/buttresslaw24.SessionNone", spec := "sessionNone", inPlace := ["internal/bytealg.Compare", "internal/bytealg.IndexByteString", "internal/bytealg.IndexString", "internal/abi.NoEscape"], unfollowed := true, recurses := true, named := ["unicode/utf8.first", "unicode/utf8.acceptRanges", "buttress/sha.begin", "buttress/sha.rest", "internal/bytealg.MaxLen"], apart := false, laid := [("unicode/utf8.acceptRanges", laid_unicode_utf8_acceptRanges), ("buttress/sha.begin", laid_buttress_sha_begin), ("buttress/sha.rest", laid_buttress_sha_rest), ("unicode/utf8.first", laid_unicode_utf8_first)], narrowed := true }
def SessionNoneUptoSaid : Prop := sessionNoneUptoRow.holds Tryz.pinned (OpenSpec.upto sessionNoneSpec)

/-- 'buttresslaw24.SessionOne', WHERE WHAT IT READS IS OF BULK AT MOST 1048576: true; the input reads as it did. -/
def sessionOneUptoRow : OpenClaim := { program := "ytojafegjlahajaagreatdoor", sum := "1e990c30335fec6c6a841bf68632731b824173e56370d2bff3cd3fef1fa24113", func := "buttress/buttresslaw24.SessionOne", spec := "sessionOne", inPlace := ["internal/bytealg.Compare", "internal/bytealg.IndexByteString", "internal/bytealg.IndexString", "internal/bytealg.abigen_runtime_cmpstring", "slices.overlaps[buttress/api.Leaf]", "internal/abi.NoEscape", "slices.overlaps[string]"], unfollowed := true, recurses := true, named := ["unicode/utf8.first", "unicode/utf8.acceptRanges", "buttress/sha.begin", "buttress/sha.rest", "internal/bytealg.MaxLen"], apart := false, laid := [("unicode/utf8.acceptRanges", laid_unicode_utf8_acceptRanges), ("buttress/sha.begin", laid_buttress_sha_begin), ("buttress/sha.rest", laid_buttress_sha_rest), ("unicode/utf8.first", laid_unicode_utf8_first)], narrowed := true }
def SessionOneUptoSaid : Prop := sessionOneUptoRow.holds Tryz.pinned (OpenSpec.upto sessionOneSpec)

/-- 'buttresslaw24.SessionLies', WHERE WHAT IT READS IS OF BULK AT MOST 1048576: true; the input reads as it did. -/
def sessionLiesUptoRow : OpenClaim := { program := "ytojafegjlahajaagreatdoor", sum := "1e990c30335fec6c6a841bf68632731b824173e56370d2bff3cd3fef1fa24113", func := "buttress/buttresslaw24.SessionLies", spec := "sessionLies", inPlace := ["internal/bytealg.Compare", "internal/bytealg.IndexByteString", "internal/bytealg.IndexString", "internal/bytealg.abigen_runtime_cmpstring", "slices.overlaps[buttress/api.Leaf]", "internal/abi.NoEscape", "slices.overlaps[string]"], unfollowed := true, recurses := true, named := ["unicode/utf8.first", "unicode/utf8.acceptRanges", "buttress/sha.begin", "buttress/sha.rest", "internal/bytealg.MaxLen"], apart := false, laid := [("unicode/utf8.acceptRanges", laid_unicode_utf8_acceptRanges), ("buttress/sha.begin", laid_buttress_sha_begin), ("buttress/sha.rest", laid_buttress_sha_rest), ("unicode/utf8.first", laid_unicode_utf8_first)], narrowed := true }
def SessionLiesUptoSaid : Prop := sessionLiesUptoRow.holds Tryz.pinned (OpenSpec.upto sessionLiesSpec)

/-- 'buttresslaw24.SessionFinds', WHERE WHAT IT READS IS OF BULK AT MOST 1048576: true; the input reads as it did. -/
def sessionFindsUptoRow : OpenClaim := { program := "ytojafegjlahajaagreatdoor", sum := "1e990c30335fec6c6a841bf68632731b824173e56370d2bff3cd3fef1fa24113", func := "buttress/buttresslaw24.SessionFinds", spec := "sessionFinds", inPlace := ["internal/bytealg.Compare", "internal/bytealg.IndexByteString", "internal/bytealg.IndexString", "internal/bytealg.abigen_runtime_cmpstring", "slices.overlaps[buttress/api.Leaf]", "internal/abi.NoEscape", "slices.overlaps[string]"], unfollowed := true, recurses := true, named := ["unicode/utf8.first", "unicode/utf8.acceptRanges", "buttress/sha.begin", "buttress/sha.rest", "internal/bytealg.MaxLen"], apart := false, laid := [("unicode/utf8.acceptRanges", laid_unicode_utf8_acceptRanges), ("buttress/sha.begin", laid_buttress_sha_begin), ("buttress/sha.rest", laid_buttress_sha_rest), ("unicode/utf8.first", laid_unicode_utf8_first)], narrowed := true }
def SessionFindsUptoSaid : Prop := sessionFindsUptoRow.holds Tryz.pinned (OpenSpec.upto sessionFindsSpec)

/-- 'buttresslaw13.ProofNone', WHERE WHAT IT READS IS OF BULK AT MOST 1048576: true; the input reads as it did. -/
def proofNoneUptoRow : OpenClaim := { program := "ytojafegjlahajaagreatdoor", sum := "1e990c30335fec6c6a841bf68632731b824173e56370d2bff3cd3fef1fa24113", func := "buttress/buttresslaw13.ProofNone", spec := "proofNone", inPlace := ["internal/bytealg.IndexByteString", "internal/bytealg.IndexString", "internal/bytealg.Compare", "internal/abi.NoEscape"], unfollowed := true, recurses := true, named := ["buttress/sha.begin", "buttress/sha.rest", "unicode/utf8.first", "unicode/utf8.acceptRanges", "internal/bytealg.MaxLen"], apart := false, laid := [("unicode/utf8.acceptRanges", laid_unicode_utf8_acceptRanges), ("buttress/sha.begin", laid_buttress_sha_begin), ("buttress/sha.rest", laid_buttress_sha_rest), ("unicode/utf8.first", laid_unicode_utf8_first)], narrowed := true }
def ProofNoneUptoSaid : Prop := proofNoneUptoRow.holds Tryz.pinned (OpenSpec.upto proofNoneSpec)

/-- 'buttresslaw13.ProofOne', WHERE WHAT IT READS IS OF BULK AT MOST 1048576: true; the input reads as it did. -/
def proofOneUptoRow : OpenClaim := { program := "ytojafegjlahajaagreatdoor", sum := "1e990c30335fec6c6a841bf68632731b824173e56370d2bff3cd3fef1fa24113", func := "buttress/buttresslaw13.ProofOne", spec := "proofOne", inPlace := ["internal/bytealg.IndexByteString", "internal/bytealg.IndexString", "internal/bytealg.Compare", "internal/abi.NoEscape"], unfollowed := true, recurses := true, named := ["buttress/sha.begin", "buttress/sha.rest", "unicode/utf8.first", "unicode/utf8.acceptRanges", "internal/bytealg.MaxLen"], apart := false, laid := [("unicode/utf8.acceptRanges", laid_unicode_utf8_acceptRanges), ("buttress/sha.begin", laid_buttress_sha_begin), ("buttress/sha.rest", laid_buttress_sha_rest), ("unicode/utf8.first", laid_unicode_utf8_first)], narrowed := true }
def ProofOneUptoSaid : Prop := proofOneUptoRow.holds Tryz.pinned (OpenSpec.upto proofOneSpec)

/-- 'buttresslaw13.ProofBack', WHERE WHAT IT READS IS OF BULK AT MOST 1048576: true; the input reads as it did. -/
def proofBackUptoRow : OpenClaim := { program := "ytojafegjlahajaagreatdoor", sum := "1e990c30335fec6c6a841bf68632731b824173e56370d2bff3cd3fef1fa24113", func := "buttress/buttresslaw13.ProofBack", spec := "proofBack", inPlace := ["internal/bytealg.IndexByteString", "internal/bytealg.IndexString", "internal/bytealg.Compare", "internal/abi.NoEscape", "internal/bytealg.abigen_runtime_cmpstring", "slices.overlaps[buttress/api.Leaf]", "slices.overlaps[string]"], unfollowed := true, recurses := true, named := ["buttress/sha.begin", "buttress/sha.rest", "unicode/utf8.first", "unicode/utf8.acceptRanges", "internal/bytealg.MaxLen"], apart := false, laid := [("unicode/utf8.acceptRanges", laid_unicode_utf8_acceptRanges), ("buttress/sha.begin", laid_buttress_sha_begin), ("buttress/sha.rest", laid_buttress_sha_rest), ("unicode/utf8.first", laid_unicode_utf8_first)], narrowed := true }
def ProofBackUptoSaid : Prop := proofBackUptoRow.holds Tryz.pinned (OpenSpec.upto proofBackSpec)

end Rows
end Go.Proofs.YtojafegjlahajaaGreatDoor
