/- Texts of this proof, one behind the other. -/
import Derived.Test.YthaebmfgelaleaaGreatKit5
import Derived.Test.YthaebmfgelaleaaGreatNet1
import Derived.Test.YthaebmfgelaleaaGreatSpGp
section
open Go Go.Sp
set_option maxRecDepth 100000
attribute [local irreducible] obj Own OwnP
namespace Go.Proofs.YthaebmfgelaleaaGreat
theorem FactKit6.elem33 : elemIs Go.Proofs.Tryz.prog 33 1 24 [.slice none 0 0] := elemIs.mk (by kernel_rfl) rfl
theorem FactKit6.flat100 : Go.Sp.flat1 Go.Proofs.Tryz.prog 100 = true := by kernel_rfl
theorem FactKit6.flat101 : Go.Sp.flat1 Go.Proofs.Tryz.prog 101 = true := by kernel_rfl
theorem FactKit6.flat50 : Go.Sp.flat1 Go.Proofs.Tryz.prog 50 = true := by kernel_rfl
theorem FactKit6.flat79 : Go.Sp.flat1 Go.Proofs.Tryz.prog 79 = true := by kernel_rfl
theorem FactKit6.flat80 : Go.Sp.flat1 Go.Proofs.Tryz.prog 80 = true := by kernel_rfl
theorem FactKit6.flat81 : Go.Sp.flat1 Go.Proofs.Tryz.prog 81 = true := by kernel_rfl
theorem FactKit6.flat82 : Go.Sp.flat1 Go.Proofs.Tryz.prog 82 = true := by kernel_rfl
theorem FactKit6.flat83 : Go.Sp.flat1 Go.Proofs.Tryz.prog 83 = true := by kernel_rfl
theorem FactKit6.flat84 : Go.Sp.flat1 Go.Proofs.Tryz.prog 84 = true := by kernel_rfl
theorem FactKit6.flat85 : Go.Sp.flat1 Go.Proofs.Tryz.prog 85 = true := by kernel_rfl
theorem FactKit6.flat86 : Go.Sp.flat1 Go.Proofs.Tryz.prog 86 = true := by kernel_rfl
theorem FactKit6.flat87 : Go.Sp.flat1 Go.Proofs.Tryz.prog 87 = true := by kernel_rfl
theorem FactKit6.flat88 : Go.Sp.flat1 Go.Proofs.Tryz.prog 88 = true := by kernel_rfl
theorem FactKit6.flat89 : Go.Sp.flat1 Go.Proofs.Tryz.prog 89 = true := by kernel_rfl
theorem FactKit6.flat90 : Go.Sp.flat1 Go.Proofs.Tryz.prog 90 = true := by kernel_rfl
theorem FactKit6.flat91 : Go.Sp.flat1 Go.Proofs.Tryz.prog 91 = true := by kernel_rfl
theorem FactKit6.flat92 : Go.Sp.flat1 Go.Proofs.Tryz.prog 92 = true := by kernel_rfl
theorem FactKit6.flat93 : Go.Sp.flat1 Go.Proofs.Tryz.prog 93 = true := by kernel_rfl
theorem FactKit6.flat94 : Go.Sp.flat1 Go.Proofs.Tryz.prog 94 = true := by kernel_rfl
theorem FactKit6.flat95 : Go.Sp.flat1 Go.Proofs.Tryz.prog 95 = true := by kernel_rfl
theorem FactKit6.flat96 : Go.Sp.flat1 Go.Proofs.Tryz.prog 96 = true := by kernel_rfl
theorem FactKit6.flat97 : Go.Sp.flat1 Go.Proofs.Tryz.prog 97 = true := by kernel_rfl
theorem FactKit6.flat98 : Go.Sp.flat1 Go.Proofs.Tryz.prog 98 = true := by kernel_rfl
theorem FactKit6.flat99 : Go.Sp.flat1 Go.Proofs.Tryz.prog 99 = true := by kernel_rfl
theorem FactKit6.fld103x0 : fieldOff Go.Proofs.Tryz.prog 103 0 = some 0 := by kernel_rfl
theorem FactKit6.fld103x1 : fieldOff Go.Proofs.Tryz.prog 103 1 = some 1 := by kernel_rfl
theorem FactKit6.fld103x10 : fieldOff Go.Proofs.Tryz.prog 103 10 = some 10 := by kernel_rfl
theorem FactKit6.fld103x11 : fieldOff Go.Proofs.Tryz.prog 103 11 = some 11 := by kernel_rfl
theorem FactKit6.fld103x12 : fieldOff Go.Proofs.Tryz.prog 103 12 = some 12 := by kernel_rfl
theorem FactKit6.fld103x13 : fieldOff Go.Proofs.Tryz.prog 103 13 = some 13 := by kernel_rfl
theorem FactKit6.fld103x14 : fieldOff Go.Proofs.Tryz.prog 103 14 = some 14 := by kernel_rfl
theorem FactKit6.fld103x15 : fieldOff Go.Proofs.Tryz.prog 103 15 = some 15 := by kernel_rfl
theorem FactKit6.fld103x16 : fieldOff Go.Proofs.Tryz.prog 103 16 = some 16 := by kernel_rfl
theorem FactKit6.fld103x17 : fieldOff Go.Proofs.Tryz.prog 103 17 = some 17 := by kernel_rfl
theorem FactKit6.fld103x18 : fieldOff Go.Proofs.Tryz.prog 103 18 = some 18 := by kernel_rfl
theorem FactKit6.fld103x19 : fieldOff Go.Proofs.Tryz.prog 103 19 = some 19 := by kernel_rfl
theorem FactKit6.fld103x2 : fieldOff Go.Proofs.Tryz.prog 103 2 = some 2 := by kernel_rfl
theorem FactKit6.fld103x20 : fieldOff Go.Proofs.Tryz.prog 103 20 = some 20 := by kernel_rfl
theorem FactKit6.fld103x21 : fieldOff Go.Proofs.Tryz.prog 103 21 = some 21 := by kernel_rfl
theorem FactKit6.fld103x22 : fieldOff Go.Proofs.Tryz.prog 103 22 = some 22 := by kernel_rfl
theorem FactKit6.fld103x23 : fieldOff Go.Proofs.Tryz.prog 103 23 = some 23 := by kernel_rfl
theorem FactKit6.fld103x3 : fieldOff Go.Proofs.Tryz.prog 103 3 = some 3 := by kernel_rfl
theorem FactKit6.fld103x4 : fieldOff Go.Proofs.Tryz.prog 103 4 = some 4 := by kernel_rfl
theorem FactKit6.fld103x5 : fieldOff Go.Proofs.Tryz.prog 103 5 = some 5 := by kernel_rfl
theorem FactKit6.fld103x6 : fieldOff Go.Proofs.Tryz.prog 103 6 = some 6 := by kernel_rfl
theorem FactKit6.fld103x7 : fieldOff Go.Proofs.Tryz.prog 103 7 = some 7 := by kernel_rfl
theorem FactKit6.fld103x8 : fieldOff Go.Proofs.Tryz.prog 103 8 = some 8 := by kernel_rfl
theorem FactKit6.fld103x9 : fieldOff Go.Proofs.Tryz.prog 103 9 = some 9 := by kernel_rfl
theorem FactKit6.ok60 : callable Go.Proofs.Tryz.prog 60 = true := by kernel_rfl
theorem FactKit6.ok61 : callable Go.Proofs.Tryz.prog 61 = true := by kernel_rfl
theorem FactKit6.ok62 : callable Go.Proofs.Tryz.prog 62 = true := by kernel_rfl
theorem FactKit6.ok63 : callable Go.Proofs.Tryz.prog 63 = true := by kernel_rfl
theorem FactKit6.ok64 : callable Go.Proofs.Tryz.prog 64 = true := by kernel_rfl
theorem FactKit6.ok65 : callable Go.Proofs.Tryz.prog 65 = true := by kernel_rfl
theorem FactKit6.ok66 : callable Go.Proofs.Tryz.prog 66 = true := by kernel_rfl
theorem FactKit6.ok67 : callable Go.Proofs.Tryz.prog 67 = true := by kernel_rfl
theorem FactKit6.ok68 : callable Go.Proofs.Tryz.prog 68 = true := by kernel_rfl
theorem FactKit6.ok69 : callable Go.Proofs.Tryz.prog 69 = true := by kernel_rfl
theorem FactKit6.ok70 : callable Go.Proofs.Tryz.prog 70 = true := by kernel_rfl
theorem FactKit6.ok71 : callable Go.Proofs.Tryz.prog 71 = true := by kernel_rfl
theorem FactKit6.ok72 : callable Go.Proofs.Tryz.prog 72 = true := by kernel_rfl
theorem FactKit6.ok73 : callable Go.Proofs.Tryz.prog 73 = true := by kernel_rfl
theorem FactKit6.ok74 : callable Go.Proofs.Tryz.prog 74 = true := by kernel_rfl
theorem FactKit6.ok75 : callable Go.Proofs.Tryz.prog 75 = true := by kernel_rfl
theorem FactKit6.ok76 : callable Go.Proofs.Tryz.prog 76 = true := by kernel_rfl
theorem FactKit6.ok77 : callable Go.Proofs.Tryz.prog 77 = true := by kernel_rfl
theorem FactKit6.ok78 : callable Go.Proofs.Tryz.prog 78 = true := by kernel_rfl
theorem FactKit6.ok79 : callable Go.Proofs.Tryz.prog 79 = true := by kernel_rfl
theorem FactKit6.ok80 : callable Go.Proofs.Tryz.prog 80 = true := by kernel_rfl
theorem FactKit6.ok81 : callable Go.Proofs.Tryz.prog 81 = true := by kernel_rfl
theorem FactKit6.ok82 : callable Go.Proofs.Tryz.prog 82 = true := by kernel_rfl
theorem FactKit6.ok83 : callable Go.Proofs.Tryz.prog 83 = true := by kernel_rfl

/-- a bag of bytes alone -/
def bagB (u : Value) : List Value := [.slice none 0 0, .slice none 0 0, .slice none 0 0, .slice none 0 0, .slice none 0 0, u, .slice none 0 0, .slice none 0 0, .slice none 0 0, .slice none 0 0, .slice none 0 0, .slice none 0 0, .slice none 0 0, .slice none 0 0, .slice none 0 0, .slice none 0 0, .slice none 0 0, .slice none 0 0, .slice none 0 0, .slice none 0 0, .slice none 0 0, .slice none 0 0, .slice none 0 0, .slice none 0 0]
theorem putBytes_c {r : Fr} {b : Nat} {a a1 : Option Addr} {c m1 c1 : Nat} {ws : List Value} (hb : ws.length ≤ 1000000000) :
    Con Go.Proofs.Tryz.prog 97 #[.pointer (some ⟨b, 0, none⟩), .slice a1 m1 c1] r [obj b 103 (bagB (.slice a ws.length c)), OwnP Rp.val 33 (.slice a ws.length c) ws]
      (Ret fun v η => ∃ a' c', v = .tuple #[] ∧ η = [obj b 103 (bagB (.slice a' (ws.length + 1) c')), OwnP Rp.val 33 (.slice a' (ws.length + 1) c') (ws ++ [.slice a1 m1 c1])]) := by
  refine Con.of (n := 14) [.pointer (some ⟨b, 0, none⟩), .slice a1 m1 c1] rfl Go.Proofs.Tryz.func97 rfl rfl rfl fun g hg R hR => ?_
  unfold bagB
  refine S.region rfl ?_
  refine O.op (.p rfl) (.mv rfl) ?_
  refine O.op (.p rfl) (.mv rfl) ?_
  refine O.op (.p rfl) (.nilCheck rfl) ?_
  refine O.op (.p rfl) (.fieldObj FactKit6.fld103x5 rfl) ?_
  refine O.op (.p rfl) (.loadObj FactKit6.flat84 rfl (by repeat (first | exact Sel.here | apply Sel.there)) rfl) ?_
  refine O.op (.p rfl) (.mv rfl) ?_
  refine O.opE (.p rfl) (.litP (T := Rp.val) (ys := [_]) Go.Proofs.Tryz.underlying84 FactKit6.elem33 (by decide) rfl rfl ⟨⟨rfl, rfl⟩, trivial⟩ (by decide)) ?_
  rintro _ _ ⟨a10, c10, rfl, rfl⟩
  refine O.opE (.p rfl) (.appendO (T := Rp.val) Go.Proofs.Tryz.underlying84 FactKit6.elem33 (by decide) rfl rfl (by repeat (first | exact Sel.here | apply Sel.there)) (by repeat (first | exact Sel.here | apply Sel.there)) (by first | omega | (simp; done) | (simp; omega) | decide) (by first | omega | (simp; done) | (simp; omega) | decide)) ?_
  rintro _ _ ⟨a11, c11, rfl, rfl⟩
  refine O.op (.p rfl) (.nilCheck rfl) ?_
  refine O.op (.p rfl) (.fieldObj FactKit6.fld103x5 rfl) ?_
  refine O.opU rfl (.store1 FactKit6.flat84 rfl rfl (by first | rfl | assumption) (by repeat (first | exact Sel.here | apply Sel.there)) (by first | (simp; done) | (simp [Value.cells]; done))) ?_
  refine O.nil ?_
  refine S.end0 Go.Proofs.Tryz.results97 fun w hw => Holds.end_ hR hw ?_
  exact ⟨_, ⟨a11, c11, rfl, rfl⟩, by repeat (first | exact Picks.all | exact Picks.nil | (apply Picks.cons; focus (repeat (first | exact Sel.here | apply Sel.there))) | apply Picks.skip)⟩
theorem apartB_c {r : Fr} {b : Nat} {u : Value} {vs : List Value} {xss : List (List UInt8)} (hls : Arr Rp.val r u vs) (hq : ∀ x ∈ xss, x.length ≤ 100000000) (hb : xss.length ≤ 100000000) :
    Con Go.Proofs.Tryz.prog 46 #[.pointer (some ⟨b, 0, none⟩)] r [obj b 103 (bagB u), RowsP Rp.u8 5 vs xss] (Ret fun v η => v = .bool true ∧ η = []) := by
  refine Con.of (n := 169) [.pointer (some ⟨b, 0, none⟩)] rfl Go.Proofs.Tryz.func46 rfl rfl rfl fun g hg R hR => ?_
  have hls := hls.mono hg
  unfold bagB
  refine S.seq (S.region rfl ?_)
  refine O.op (.p rfl) (.as rfl) ?_
  refine O.nil ?_
  refine S.seq (S.region rfl ?_)
  refine O.op (.p rfl) (.mv rfl) ?_
  refine O.op (.p rfl) (.nilCheck rfl) ?_
  refine O.op (.p rfl) (.fieldObj FactKit6.fld103x0 rfl) ?_
  refine O.op (.p rfl) (.loadObj FactKit6.flat79 rfl (by repeat (first | exact Sel.here | apply Sel.there)) rfl) ?_
  refine O.call0 (.p rfl) rfl FactKit6.ok60 rfl rfl (flatLimbs_0) ?_
  rintro v7 _ ⟨rfl, rfl⟩
  try simp only [List.cons_append, List.nil_append, List.append_nil]
  refine O.slot 7 (v' := .bool true) rfl (congrArg Value.bool (by first | decide | simp)) ?_
  refine O.op (.p rfl) (.mv rfl) ?_
  refine O.op (.g rfl rfl) (.mv rfl) ?_
  refine O.op (.g rfl rfl) (.nilCheck rfl) ?_
  refine O.op (.g rfl rfl) (.fieldObj FactKit6.fld103x1 rfl) ?_
  refine O.op (.g rfl rfl) (.loadObj FactKit6.flat80 rfl (by repeat (first | exact Sel.here | apply Sel.there)) rfl) ?_
  refine O.call0 (.g rfl rfl) rfl FactKit6.ok61 rfl rfl (flatWords_0) ?_
  rintro v13 _ ⟨rfl, rfl⟩
  try simp only [List.cons_append, List.nil_append, List.append_nil]
  refine O.slot 13 (v' := .bool true) rfl (congrArg Value.bool (by first | decide | simp)) ?_
  refine O.op (.p rfl) (.pickT rfl rfl) ?_
  refine O.op (.p rfl) (.mv rfl) ?_
  refine O.op (.g rfl rfl) (.mv rfl) ?_
  refine O.op (.g rfl rfl) (.nilCheck rfl) ?_
  refine O.op (.g rfl rfl) (.fieldObj FactKit6.fld103x2 rfl) ?_
  refine O.op (.g rfl rfl) (.loadObj FactKit6.flat81 rfl (by repeat (first | exact Sel.here | apply Sel.there)) rfl) ?_
  refine O.call0 (.g rfl rfl) rfl FactKit6.ok62 rfl rfl (flatInts_0) ?_
  rintro v20 _ ⟨rfl, rfl⟩
  try simp only [List.cons_append, List.nil_append, List.append_nil]
  refine O.slot 20 (v' := .bool true) rfl (congrArg Value.bool (by first | decide | simp)) ?_
  refine O.op (.p rfl) (.pickT rfl rfl) ?_
  refine O.op (.p rfl) (.mv rfl) ?_
  refine O.op (.g rfl rfl) (.mv rfl) ?_
  refine O.op (.g rfl rfl) (.nilCheck rfl) ?_
  refine O.op (.g rfl rfl) (.fieldObj FactKit6.fld103x3 rfl) ?_
  refine O.op (.g rfl rfl) (.loadObj FactKit6.flat82 rfl (by repeat (first | exact Sel.here | apply Sel.there)) rfl) ?_
  refine O.call0 (.g rfl rfl) rfl FactKit6.ok63 rfl rfl (flatLongs_0) ?_
  rintro v27 _ ⟨rfl, rfl⟩
  try simp only [List.cons_append, List.nil_append, List.append_nil]
  refine O.slot 27 (v' := .bool true) rfl (congrArg Value.bool (by first | decide | simp)) ?_
  refine O.op (.p rfl) (.pickT rfl rfl) ?_
  refine O.op (.p rfl) (.mv rfl) ?_
  refine O.op (.g rfl rfl) (.mv rfl) ?_
  refine O.op (.g rfl rfl) (.nilCheck rfl) ?_
  refine O.op (.g rfl rfl) (.fieldObj FactKit6.fld103x4 rfl) ?_
  refine O.op (.g rfl rfl) (.loadObj FactKit6.flat83 rfl (by repeat (first | exact Sel.here | apply Sel.there)) rfl) ?_
  refine O.call0 (.g rfl rfl) rfl FactKit6.ok64 rfl rfl (flatTexts_0) ?_
  rintro v34 _ ⟨rfl, rfl⟩
  try simp only [List.cons_append, List.nil_append, List.append_nil]
  refine O.slot 34 (v' := .bool true) rfl (congrArg Value.bool (by first | decide | simp)) ?_
  refine O.op (.p rfl) (.pickT rfl rfl) ?_
  refine O.op (.p rfl) (.mv rfl) ?_
  refine O.op (.g rfl rfl) (.mv rfl) ?_
  refine O.op (.g rfl rfl) (.nilCheck rfl) ?_
  refine O.op (.g rfl rfl) (.fieldObj FactKit6.fld103x5 rfl) ?_
  refine O.op (.g rfl rfl) (.loadObj FactKit6.flat84 rfl (by repeat (first | exact Sel.here | apply Sel.there)) rfl) ?_
  refine O.callS (.g rfl rfl) rfl FactKit6.ok65 rfl rfl (by repeat (first | exact Sel.here | apply Sel.there)) (flatBytes_c hls hq hb) ?_
  rintro v41 _ ⟨rfl, rfl⟩
  try simp only [List.cons_append, List.nil_append, List.append_nil]
  refine O.slot 41 (v' := .bool true) rfl (congrArg Value.bool (by first | decide | simp)) ?_
  refine O.op (.p rfl) (.pickT rfl rfl) ?_
  refine O.op (.p rfl) (.mv rfl) ?_
  refine O.op (.g rfl rfl) (.mv rfl) ?_
  refine O.op (.g rfl rfl) (.nilCheck rfl) ?_
  refine O.op (.g rfl rfl) (.fieldObj FactKit6.fld103x6 rfl) ?_
  refine O.op (.g rfl rfl) (.loadObj FactKit6.flat85 rfl (by repeat (first | exact Sel.here | apply Sel.there)) rfl) ?_
  refine O.call0 (.g rfl rfl) rfl FactKit6.ok66 rfl rfl (flatTruths_0) ?_
  rintro v48 _ ⟨rfl, rfl⟩
  try simp only [List.cons_append, List.nil_append, List.append_nil]
  refine O.slot 48 (v' := .bool true) rfl (congrArg Value.bool (by first | decide | simp)) ?_
  refine O.op (.p rfl) (.pickT rfl rfl) ?_
  refine O.op (.p rfl) (.mv rfl) ?_
  refine O.op (.g rfl rfl) (.mv rfl) ?_
  refine O.op (.g rfl rfl) (.nilCheck rfl) ?_
  refine O.op (.g rfl rfl) (.fieldObj FactKit6.fld103x7 rfl) ?_
  refine O.op (.g rfl rfl) (.loadObj FactKit6.flat86 rfl (by repeat (first | exact Sel.here | apply Sel.there)) rfl) ?_
  refine O.call0 (.g rfl rfl) rfl FactKit6.ok67 rfl rfl (flatRows_0) ?_
  rintro v55 _ ⟨rfl, rfl⟩
  try simp only [List.cons_append, List.nil_append, List.append_nil]
  refine O.slot 55 (v' := .bool true) rfl (congrArg Value.bool (by first | decide | simp)) ?_
  refine O.op (.p rfl) (.pickT rfl rfl) ?_
  refine O.op (.p rfl) (.mv rfl) ?_
  refine O.op (.g rfl rfl) (.mv rfl) ?_
  refine O.op (.g rfl rfl) (.nilCheck rfl) ?_
  refine O.op (.g rfl rfl) (.fieldObj FactKit6.fld103x8 rfl) ?_
  refine O.op (.g rfl rfl) (.loadObj FactKit6.flat87 rfl (by repeat (first | exact Sel.here | apply Sel.there)) rfl) ?_
  refine O.call0 (.g rfl rfl) rfl FactKit6.ok68 rfl rfl (flatDots_0) ?_
  rintro v62 _ ⟨rfl, rfl⟩
  try simp only [List.cons_append, List.nil_append, List.append_nil]
  refine O.slot 62 (v' := .bool true) rfl (congrArg Value.bool (by first | decide | simp)) ?_
  refine O.op (.p rfl) (.pickT rfl rfl) ?_
  refine O.op (.p rfl) (.mv rfl) ?_
  refine O.op (.g rfl rfl) (.mv rfl) ?_
  refine O.op (.g rfl rfl) (.nilCheck rfl) ?_
  refine O.op (.g rfl rfl) (.fieldObj FactKit6.fld103x9 rfl) ?_
  refine O.op (.g rfl rfl) (.loadObj FactKit6.flat88 rfl (by repeat (first | exact Sel.here | apply Sel.there)) rfl) ?_
  refine O.call0 (.g rfl rfl) rfl FactKit6.ok69 rfl rfl (flatRecords_0) ?_
  rintro v69 _ ⟨rfl, rfl⟩
  try simp only [List.cons_append, List.nil_append, List.append_nil]
  refine O.slot 69 (v' := .bool true) rfl (congrArg Value.bool (by first | decide | simp)) ?_
  refine O.op (.p rfl) (.pickT rfl rfl) ?_
  refine O.op (.p rfl) (.mv rfl) ?_
  refine O.op (.g rfl rfl) (.mv rfl) ?_
  refine O.op (.g rfl rfl) (.nilCheck rfl) ?_
  refine O.op (.g rfl rfl) (.fieldObj FactKit6.fld103x10 rfl) ?_
  refine O.op (.g rfl rfl) (.loadObj FactKit6.flat89 rfl (by repeat (first | exact Sel.here | apply Sel.there)) rfl) ?_
  refine O.call0 (.g rfl rfl) rfl FactKit6.ok70 rfl rfl (flatLeaves_0) ?_
  rintro v76 _ ⟨rfl, rfl⟩
  try simp only [List.cons_append, List.nil_append, List.append_nil]
  refine O.slot 76 (v' := .bool true) rfl (congrArg Value.bool (by first | decide | simp)) ?_
  refine O.op (.p rfl) (.pickT rfl rfl) ?_
  refine O.op (.p rfl) (.mv rfl) ?_
  refine O.op (.g rfl rfl) (.mv rfl) ?_
  refine O.op (.g rfl rfl) (.nilCheck rfl) ?_
  refine O.op (.g rfl rfl) (.fieldObj FactKit6.fld103x11 rfl) ?_
  refine O.op (.g rfl rfl) (.loadObj FactKit6.flat90 rfl (by repeat (first | exact Sel.here | apply Sel.there)) rfl) ?_
  refine O.call0 (.g rfl rfl) rfl FactKit6.ok71 rfl rfl (flatGrants_0) ?_
  rintro v83 _ ⟨rfl, rfl⟩
  try simp only [List.cons_append, List.nil_append, List.append_nil]
  refine O.slot 83 (v' := .bool true) rfl (congrArg Value.bool (by first | decide | simp)) ?_
  refine O.op (.p rfl) (.pickT rfl rfl) ?_
  refine O.op (.p rfl) (.mv rfl) ?_
  refine O.op (.g rfl rfl) (.mv rfl) ?_
  refine O.op (.g rfl rfl) (.nilCheck rfl) ?_
  refine O.op (.g rfl rfl) (.fieldObj FactKit6.fld103x12 rfl) ?_
  refine O.op (.g rfl rfl) (.loadObj FactKit6.flat91 rfl (by repeat (first | exact Sel.here | apply Sel.there)) rfl) ?_
  refine O.call0 (.g rfl rfl) rfl FactKit6.ok72 rfl rfl (flatNodes_0) ?_
  rintro v90 _ ⟨rfl, rfl⟩
  try simp only [List.cons_append, List.nil_append, List.append_nil]
  refine O.slot 90 (v' := .bool true) rfl (congrArg Value.bool (by first | decide | simp)) ?_
  refine O.op (.p rfl) (.pickT rfl rfl) ?_
  refine O.op (.p rfl) (.mv rfl) ?_
  refine O.op (.g rfl rfl) (.mv rfl) ?_
  refine O.op (.g rfl rfl) (.nilCheck rfl) ?_
  refine O.op (.g rfl rfl) (.fieldObj FactKit6.fld103x13 rfl) ?_
  refine O.op (.g rfl rfl) (.loadObj FactKit6.flat92 rfl (by repeat (first | exact Sel.here | apply Sel.there)) rfl) ?_
  refine O.call0 (.g rfl rfl) rfl FactKit6.ok73 rfl rfl (flatStubs_0) ?_
  rintro v97 _ ⟨rfl, rfl⟩
  try simp only [List.cons_append, List.nil_append, List.append_nil]
  refine O.slot 97 (v' := .bool true) rfl (congrArg Value.bool (by first | decide | simp)) ?_
  refine O.op (.p rfl) (.pickT rfl rfl) ?_
  refine O.op (.p rfl) (.mv rfl) ?_
  refine O.op (.g rfl rfl) (.mv rfl) ?_
  refine O.op (.g rfl rfl) (.nilCheck rfl) ?_
  refine O.op (.g rfl rfl) (.fieldObj FactKit6.fld103x14 rfl) ?_
  refine O.op (.g rfl rfl) (.loadObj FactKit6.flat93 rfl (by repeat (first | exact Sel.here | apply Sel.there)) rfl) ?_
  refine O.call0 (.g rfl rfl) rfl FactKit6.ok74 rfl rfl (flatProofs_0) ?_
  rintro v104 _ ⟨rfl, rfl⟩
  try simp only [List.cons_append, List.nil_append, List.append_nil]
  refine O.slot 104 (v' := .bool true) rfl (congrArg Value.bool (by first | decide | simp)) ?_
  refine O.op (.p rfl) (.pickT rfl rfl) ?_
  refine O.op (.p rfl) (.mv rfl) ?_
  refine O.op (.g rfl rfl) (.mv rfl) ?_
  refine O.op (.g rfl rfl) (.nilCheck rfl) ?_
  refine O.op (.g rfl rfl) (.fieldObj FactKit6.fld103x15 rfl) ?_
  refine O.op (.g rfl rfl) (.loadObj FactKit6.flat94 rfl (by repeat (first | exact Sel.here | apply Sel.there)) rfl) ?_
  refine O.call0 (.g rfl rfl) rfl FactKit6.ok75 rfl rfl (flatRoots_0) ?_
  rintro v111 _ ⟨rfl, rfl⟩
  try simp only [List.cons_append, List.nil_append, List.append_nil]
  refine O.slot 111 (v' := .bool true) rfl (congrArg Value.bool (by first | decide | simp)) ?_
  refine O.op (.p rfl) (.pickT rfl rfl) ?_
  refine O.op (.p rfl) (.mv rfl) ?_
  refine O.op (.g rfl rfl) (.mv rfl) ?_
  refine O.op (.g rfl rfl) (.nilCheck rfl) ?_
  refine O.op (.g rfl rfl) (.fieldObj FactKit6.fld103x16 rfl) ?_
  refine O.op (.g rfl rfl) (.loadObj FactKit6.flat95 rfl (by repeat (first | exact Sel.here | apply Sel.there)) rfl) ?_
  refine O.call0 (.g rfl rfl) rfl FactKit6.ok76 rfl rfl (flatEvidenceRow_0) ?_
  rintro v118 _ ⟨rfl, rfl⟩
  try simp only [List.cons_append, List.nil_append, List.append_nil]
  refine O.slot 118 (v' := .bool true) rfl (congrArg Value.bool (by first | decide | simp)) ?_
  refine O.op (.p rfl) (.pickT rfl rfl) ?_
  refine O.op (.p rfl) (.mv rfl) ?_
  refine O.op (.g rfl rfl) (.mv rfl) ?_
  refine O.op (.g rfl rfl) (.nilCheck rfl) ?_
  refine O.op (.g rfl rfl) (.fieldObj FactKit6.fld103x17 rfl) ?_
  refine O.op (.g rfl rfl) (.loadObj FactKit6.flat96 rfl (by repeat (first | exact Sel.here | apply Sel.there)) rfl) ?_
  refine O.call0 (.g rfl rfl) rfl FactKit6.ok77 rfl rfl (flatFrames_0) ?_
  rintro v125 _ ⟨rfl, rfl⟩
  try simp only [List.cons_append, List.nil_append, List.append_nil]
  refine O.slot 125 (v' := .bool true) rfl (congrArg Value.bool (by first | decide | simp)) ?_
  refine O.op (.p rfl) (.pickT rfl rfl) ?_
  refine O.op (.p rfl) (.mv rfl) ?_
  refine O.op (.g rfl rfl) (.mv rfl) ?_
  refine O.op (.g rfl rfl) (.nilCheck rfl) ?_
  refine O.op (.g rfl rfl) (.fieldObj FactKit6.fld103x18 rfl) ?_
  refine O.op (.g rfl rfl) (.loadObj FactKit6.flat50 rfl (by repeat (first | exact Sel.here | apply Sel.there)) rfl) ?_
  refine O.call0 (.g rfl rfl) rfl FactKit6.ok78 rfl rfl (flatPackets_0) ?_
  rintro v132 _ ⟨rfl, rfl⟩
  try simp only [List.cons_append, List.nil_append, List.append_nil]
  refine O.slot 132 (v' := .bool true) rfl (congrArg Value.bool (by first | decide | simp)) ?_
  refine O.op (.p rfl) (.pickT rfl rfl) ?_
  refine O.op (.p rfl) (.mv rfl) ?_
  refine O.op (.g rfl rfl) (.mv rfl) ?_
  refine O.op (.g rfl rfl) (.nilCheck rfl) ?_
  refine O.op (.g rfl rfl) (.fieldObj FactKit6.fld103x19 rfl) ?_
  refine O.op (.g rfl rfl) (.loadObj FactKit6.flat97 rfl (by repeat (first | exact Sel.here | apply Sel.there)) rfl) ?_
  refine O.call0 (.g rfl rfl) rfl FactKit6.ok79 rfl rfl (flatEntries_0) ?_
  rintro v139 _ ⟨rfl, rfl⟩
  try simp only [List.cons_append, List.nil_append, List.append_nil]
  refine O.slot 139 (v' := .bool true) rfl (congrArg Value.bool (by first | decide | simp)) ?_
  refine O.op (.p rfl) (.pickT rfl rfl) ?_
  refine O.op (.p rfl) (.mv rfl) ?_
  refine O.op (.g rfl rfl) (.mv rfl) ?_
  refine O.op (.g rfl rfl) (.nilCheck rfl) ?_
  refine O.op (.g rfl rfl) (.fieldObj FactKit6.fld103x20 rfl) ?_
  refine O.op (.g rfl rfl) (.loadObj FactKit6.flat98 rfl (by repeat (first | exact Sel.here | apply Sel.there)) rfl) ?_
  refine O.call0 (.g rfl rfl) rfl FactKit6.ok80 rfl rfl (flatHeldRow_0) ?_
  rintro v146 _ ⟨rfl, rfl⟩
  try simp only [List.cons_append, List.nil_append, List.append_nil]
  refine O.slot 146 (v' := .bool true) rfl (congrArg Value.bool (by first | decide | simp)) ?_
  refine O.op (.p rfl) (.pickT rfl rfl) ?_
  refine O.op (.p rfl) (.mv rfl) ?_
  refine O.op (.g rfl rfl) (.mv rfl) ?_
  refine O.op (.g rfl rfl) (.nilCheck rfl) ?_
  refine O.op (.g rfl rfl) (.fieldObj FactKit6.fld103x21 rfl) ?_
  refine O.op (.g rfl rfl) (.loadObj FactKit6.flat99 rfl (by repeat (first | exact Sel.here | apply Sel.there)) rfl) ?_
  refine O.call0 (.g rfl rfl) rfl FactKit6.ok81 rfl rfl (flatConfigs_0) ?_
  rintro v153 _ ⟨rfl, rfl⟩
  try simp only [List.cons_append, List.nil_append, List.append_nil]
  refine O.slot 153 (v' := .bool true) rfl (congrArg Value.bool (by first | decide | simp)) ?_
  refine O.op (.p rfl) (.pickT rfl rfl) ?_
  refine O.op (.p rfl) (.mv rfl) ?_
  refine O.op (.g rfl rfl) (.mv rfl) ?_
  refine O.op (.g rfl rfl) (.nilCheck rfl) ?_
  refine O.op (.g rfl rfl) (.fieldObj FactKit6.fld103x22 rfl) ?_
  refine O.op (.g rfl rfl) (.loadObj FactKit6.flat100 rfl (by repeat (first | exact Sel.here | apply Sel.there)) rfl) ?_
  refine O.call0 (.g rfl rfl) rfl FactKit6.ok82 rfl rfl (flatSteps_0) ?_
  rintro v160 _ ⟨rfl, rfl⟩
  try simp only [List.cons_append, List.nil_append, List.append_nil]
  refine O.slot 160 (v' := .bool true) rfl (congrArg Value.bool (by first | decide | simp)) ?_
  refine O.op (.p rfl) (.pickT rfl rfl) ?_
  refine O.op (.p rfl) (.mv rfl) ?_
  refine O.op (.g rfl rfl) (.mv rfl) ?_
  refine O.op (.g rfl rfl) (.nilCheck rfl) ?_
  refine O.op (.g rfl rfl) (.fieldObj FactKit6.fld103x23 rfl) ?_
  refine O.op (.g rfl rfl) (.loadObj FactKit6.flat101 rfl (by repeat (first | exact Sel.here | apply Sel.there)) rfl) ?_
  refine O.call0 (.g rfl rfl) rfl FactKit6.ok83 rfl rfl (flatTales_0) ?_
  rintro v167 _ ⟨rfl, rfl⟩
  try simp only [List.cons_append, List.nil_append, List.append_nil]
  refine O.slot 167 (v' := .bool true) rfl (congrArg Value.bool (by first | decide | simp)) ?_
  refine O.op (.p rfl) (.pickT rfl rfl) ?_
  refine O.op (.p rfl) (.as rfl) ?_
  refine O.nil ?_
  refine S.ret Go.Proofs.Tryz.results46 rfl fun w hw => Holds.end_ hR hw ?_
  exact ⟨_, ⟨rfl, rfl⟩, by repeat (first | exact Picks.all | exact Picks.nil | (apply Picks.cons; focus (repeat (first | exact Sel.here | apply Sel.there))) | apply Picks.skip)⟩
end Go.Proofs.YthaebmfgelaleaaGreat
end
section
open Go Go.Sp
set_option maxRecDepth 100000
attribute [local irreducible] obj Own OwnP
namespace Go.Proofs.YthaebmfgelaleaaGreat
theorem FactKp1.ok50 : callable Go.Proofs.Tryz.prog 50 = true := by kernel_rfl

/-- the mark of a packet -/
def markPkt (k i : Int) : Pkt := (markZ k i, 0, [], ())
theorem markZ64 {k i : Int} (hk : Mk k) (hi : Mk i) : InI64 (markZ k i) := by
  obtain ⟨h1, h2⟩ := hk
  obtain ⟨h3, h4⟩ := hi
  unfold markZ
  constructor <;> omega
theorem PktRp.mark {h : Fr} {k i : Int} (hk : Mk k) (hi : Mk i) : PktRp.rel h [.int .i64 (markZ k i), .int .i64 0, .slice none 0 0] (markPkt k i) := PktRp.mk (markZ64 hk hi) (by constructor <;> decide) Arr.nil
theorem markPacket_c {r : Fr} (k i : Int) (hk : Mk k) (hi : Mk i) : Con Go.Proofs.Tryz.prog 36 #[.int .i64 k, .int .i64 i] r [] (Ret fun v η => v = .agg #[.int .i64 (markZ k i), .int .i64 0, .slice none 0 0] ∧ η = []) := by
  refine Con.of (n := 9) [.int .i64 k, .int .i64 i] rfl Go.Proofs.Tryz.func36 rfl rfl rfl fun g hg R hR => ?_
  refine S.seq (S.region rfl ?_)
  refine O.opE (.p rfl) (.alloc (cs := [.int .i64 0, .int .i64 0, .slice none 0 0]) Go.Proofs.Tryz.zeroValue35 rfl) ?_
  rintro _ _ ⟨b4, rfl, rfl⟩
  refine O.nil ?_
  refine S.seq (S.region rfl ?_)
  refine O.op (.p rfl) (.mv rfl) ?_
  refine O.op (.p rfl) (.mv rfl) ?_
  refine O.call0 (.p rfl) rfl FactKp1.ok50 rfl rfl ((mark_c _ _ hk hi)) ?_
  rintro v7 _ ⟨rfl, rfl⟩
  try simp only [List.cons_append, List.nil_append, List.append_nil]
  refine O.op (.p rfl) (.build (cs := [_, _, _]) Go.Proofs.Tryz.underlying35 rfl rfl rfl rfl rfl) ?_
  refine O.opU rfl (.storeObj (by kernel_rfl) rfl rfl rfl rfl (by repeat (first | exact Sel.here | apply Sel.there)) (by first | (simp; done) | (simp [Value.cells]; done))) ?_
  refine O.nil ?_
  refine S.retCellAgg Go.Proofs.Tryz.results36 Go.Proofs.Tryz.isAgg35 (by kernel_rfl) rfl (by repeat (first | exact Sel.here | apply Sel.there)) fun w hw => Holds.end_ hR hw ?_
  exact ⟨_, ⟨rfl, rfl⟩, by repeat (first | exact Picks.all | exact Picks.nil | (apply Picks.cons; focus (repeat (first | exact Sel.here | apply Sel.there))) | apply Picks.skip)⟩
theorem markPacket_w {r : Fr} (k i : Int) (hk : Mk k) (hi : Mk i) : Con Go.Proofs.Tryz.prog 36 #[.int .i64 k, .int .i64 i] r [] (Ret fun v η => ∃ cs, v = .agg cs.toArray ∧ (cs.length = 3 ∧ ∀ c ∈ cs, c.oneCell' = true) ∧ η = [RdW PktRp cs (markPkt k i)]) :=
  (markPacket_c k i hk hi).post fun e η' h w g hw => by
    cases e with
    | returned v =>
      obtain ⟨rfl, rfl⟩ := h
      exact ⟨_, ⟨[.int .i64 (markZ k i), .int .i64 0, .slice none 0 0], rfl, ⟨rfl, by intro c hc; simp at hc; rcases hc with rfl | rfl | rfl <;> rfl⟩, rfl⟩, hw.imp fun m x => ⟨Fr.emp, m, Fr.emp_disj _, Fr.emp_sub _, Fr.sub_refl _, PktRp.mark hk hi, x⟩⟩
    | panicked _ => exact h.elim
    | outgrown => exact h.elim
theorem samePacket_r {r : Fr} {cs ds : List Value} {x y : Pkt} (h : PktRp.rel r cs x) (h' : PktRp.rel r ds y) :
    Con Go.Proofs.Tryz.prog 12 #[.agg cs.toArray, .agg ds.toArray] r [] (Ret fun v η => v = .bool (decide (x = y)) ∧ η = []) := by
  obtain ⟨v, rfl, _, _, ha⟩ := PktRp.open h
  obtain ⟨u, rfl, _, _, hb⟩ := PktRp.open h'
  exact samePacket_c ha hb
/-- the second one is lent, and let go -/
theorem samePacket_w {r : Fr} {cs ds : List Value} {x y : Pkt} (h : PktRp.rel r cs x) :
    Con Go.Proofs.Tryz.prog 12 #[.agg cs.toArray, .agg ds.toArray] r [RdW PktRp ds y] (Ret fun v η => v = .bool (decide (x = y)) ∧ η = []) :=
  Con.lentD (η := []) (bs := [_]) fun _ hm hd => samePacket_r (PktRp.mono (Fr.sub_add_left _ _) h) (PktRp.mono (Fr.sub_add_right hd) (Sat.w1 (B := fun m => PktRp.rel m ds y) PktRp.mono (fun _ x => x) hm))

end Go.Proofs.YthaebmfgelaleaaGreat
end
