import Derived.Test.YtkkcpckgnfcncaaGreatDoorKit5
open Go Go.Sp
set_option maxRecDepth 100000
attribute [local irreducible] obj Own OwnP
namespace Go.Proofs.YtkkcpckgnfcncaaGreatDoor
theorem FactKit6.elem22 : elemIs Go.Proofs.Tryz.prog 22 1 24 [.slice none 0 0] := elemIs.mk (by kernel_rfl) rfl
theorem FactKit6.flat22 : Go.Sp.flat1 Go.Proofs.Tryz.prog 22 = true := by kernel_rfl
theorem FactKit6.flat34 : Go.Sp.flat1 Go.Proofs.Tryz.prog 34 = true := by kernel_rfl
theorem FactKit6.flat38 : Go.Sp.flat1 Go.Proofs.Tryz.prog 38 = true := by kernel_rfl
theorem FactKit6.flat71 : Go.Sp.flat1 Go.Proofs.Tryz.prog 71 = true := by kernel_rfl
theorem FactKit6.flat72 : Go.Sp.flat1 Go.Proofs.Tryz.prog 72 = true := by kernel_rfl
theorem FactKit6.flat73 : Go.Sp.flat1 Go.Proofs.Tryz.prog 73 = true := by kernel_rfl
theorem FactKit6.flat74 : Go.Sp.flat1 Go.Proofs.Tryz.prog 74 = true := by kernel_rfl
theorem FactKit6.flat75 : Go.Sp.flat1 Go.Proofs.Tryz.prog 75 = true := by kernel_rfl
theorem FactKit6.flat76 : Go.Sp.flat1 Go.Proofs.Tryz.prog 76 = true := by kernel_rfl
theorem FactKit6.flat77 : Go.Sp.flat1 Go.Proofs.Tryz.prog 77 = true := by kernel_rfl
theorem FactKit6.flat78 : Go.Sp.flat1 Go.Proofs.Tryz.prog 78 = true := by kernel_rfl
theorem FactKit6.flat79 : Go.Sp.flat1 Go.Proofs.Tryz.prog 79 = true := by kernel_rfl
theorem FactKit6.flat80 : Go.Sp.flat1 Go.Proofs.Tryz.prog 80 = true := by kernel_rfl
theorem FactKit6.flat81 : Go.Sp.flat1 Go.Proofs.Tryz.prog 81 = true := by kernel_rfl
theorem FactKit6.flat82 : Go.Sp.flat1 Go.Proofs.Tryz.prog 82 = true := by kernel_rfl
theorem FactKit6.flat83 : Go.Sp.flat1 Go.Proofs.Tryz.prog 83 = true := by kernel_rfl
theorem FactKit6.flat84 : Go.Sp.flat1 Go.Proofs.Tryz.prog 84 = true := by kernel_rfl
theorem FactKit6.flat85 : Go.Sp.flat1 Go.Proofs.Tryz.prog 85 = true := by kernel_rfl
theorem FactKit6.flat86 : Go.Sp.flat1 Go.Proofs.Tryz.prog 86 = true := by kernel_rfl
theorem FactKit6.flat87 : Go.Sp.flat1 Go.Proofs.Tryz.prog 87 = true := by kernel_rfl
theorem FactKit6.flat88 : Go.Sp.flat1 Go.Proofs.Tryz.prog 88 = true := by kernel_rfl
theorem FactKit6.flat89 : Go.Sp.flat1 Go.Proofs.Tryz.prog 89 = true := by kernel_rfl
theorem FactKit6.flat90 : Go.Sp.flat1 Go.Proofs.Tryz.prog 90 = true := by kernel_rfl
theorem FactKit6.flat91 : Go.Sp.flat1 Go.Proofs.Tryz.prog 91 = true := by kernel_rfl
theorem FactKit6.flat92 : Go.Sp.flat1 Go.Proofs.Tryz.prog 92 = true := by kernel_rfl
theorem FactKit6.fld94x0 : fieldOff Go.Proofs.Tryz.prog 94 0 = some 0 := by kernel_rfl
theorem FactKit6.fld94x1 : fieldOff Go.Proofs.Tryz.prog 94 1 = some 1 := by kernel_rfl
theorem FactKit6.fld94x10 : fieldOff Go.Proofs.Tryz.prog 94 10 = some 10 := by kernel_rfl
theorem FactKit6.fld94x11 : fieldOff Go.Proofs.Tryz.prog 94 11 = some 11 := by kernel_rfl
theorem FactKit6.fld94x12 : fieldOff Go.Proofs.Tryz.prog 94 12 = some 12 := by kernel_rfl
theorem FactKit6.fld94x13 : fieldOff Go.Proofs.Tryz.prog 94 13 = some 13 := by kernel_rfl
theorem FactKit6.fld94x14 : fieldOff Go.Proofs.Tryz.prog 94 14 = some 14 := by kernel_rfl
theorem FactKit6.fld94x15 : fieldOff Go.Proofs.Tryz.prog 94 15 = some 15 := by kernel_rfl
theorem FactKit6.fld94x16 : fieldOff Go.Proofs.Tryz.prog 94 16 = some 16 := by kernel_rfl
theorem FactKit6.fld94x17 : fieldOff Go.Proofs.Tryz.prog 94 17 = some 17 := by kernel_rfl
theorem FactKit6.fld94x18 : fieldOff Go.Proofs.Tryz.prog 94 18 = some 18 := by kernel_rfl
theorem FactKit6.fld94x19 : fieldOff Go.Proofs.Tryz.prog 94 19 = some 19 := by kernel_rfl
theorem FactKit6.fld94x2 : fieldOff Go.Proofs.Tryz.prog 94 2 = some 2 := by kernel_rfl
theorem FactKit6.fld94x20 : fieldOff Go.Proofs.Tryz.prog 94 20 = some 20 := by kernel_rfl
theorem FactKit6.fld94x21 : fieldOff Go.Proofs.Tryz.prog 94 21 = some 21 := by kernel_rfl
theorem FactKit6.fld94x22 : fieldOff Go.Proofs.Tryz.prog 94 22 = some 22 := by kernel_rfl
theorem FactKit6.fld94x23 : fieldOff Go.Proofs.Tryz.prog 94 23 = some 23 := by kernel_rfl
theorem FactKit6.fld94x3 : fieldOff Go.Proofs.Tryz.prog 94 3 = some 3 := by kernel_rfl
theorem FactKit6.fld94x4 : fieldOff Go.Proofs.Tryz.prog 94 4 = some 4 := by kernel_rfl
theorem FactKit6.fld94x5 : fieldOff Go.Proofs.Tryz.prog 94 5 = some 5 := by kernel_rfl
theorem FactKit6.fld94x6 : fieldOff Go.Proofs.Tryz.prog 94 6 = some 6 := by kernel_rfl
theorem FactKit6.fld94x7 : fieldOff Go.Proofs.Tryz.prog 94 7 = some 7 := by kernel_rfl
theorem FactKit6.fld94x8 : fieldOff Go.Proofs.Tryz.prog 94 8 = some 8 := by kernel_rfl
theorem FactKit6.fld94x9 : fieldOff Go.Proofs.Tryz.prog 94 9 = some 9 := by kernel_rfl
theorem FactKit6.ok35 : callable Go.Proofs.Tryz.prog 35 = true := by kernel_rfl
theorem FactKit6.ok36 : callable Go.Proofs.Tryz.prog 36 = true := by kernel_rfl
theorem FactKit6.ok59 : callable Go.Proofs.Tryz.prog 59 = true := by kernel_rfl
theorem FactKit6.ok60 : callable Go.Proofs.Tryz.prog 60 = true := by kernel_rfl
theorem FactKit6.ok61 : callable Go.Proofs.Tryz.prog 61 = true := by kernel_rfl
theorem FactKit6.ok62 : callable Go.Proofs.Tryz.prog 62 = true := by kernel_rfl
theorem FactKit6.ok63 : callable Go.Proofs.Tryz.prog 63 = true := by kernel_rfl
theorem FactKit6.ok64 : callable Go.Proofs.Tryz.prog 64 = true := by kernel_rfl
theorem FactKit6.ok65 : callable Go.Proofs.Tryz.prog 65 = true := by kernel_rfl
theorem FactKit6.ok66 : callable Go.Proofs.Tryz.prog 66 = true := by kernel_rfl
theorem FactKit6.ok67 : callable Go.Proofs.Tryz.prog 67 = true := by kernel_rfl
theorem FactKit6.ok68 : callable Go.Proofs.Tryz.prog 68 = true := by kernel_rfl
theorem FactKit6.ok69 : callable Go.Proofs.Tryz.prog 69 = true := by kernel_rfl
theorem FactKit6.ok70 : callable Go.Proofs.Tryz.prog 70 = true := by kernel_rfl
theorem FactKit6.ok71 : callable Go.Proofs.Tryz.prog 71 = true := by kernel_rfl
theorem FactKit6.ok72 : callable Go.Proofs.Tryz.prog 72 = true := by kernel_rfl
theorem FactKit6.ok73 : callable Go.Proofs.Tryz.prog 73 = true := by kernel_rfl
theorem FactKit6.ok74 : callable Go.Proofs.Tryz.prog 74 = true := by kernel_rfl
theorem FactKit6.ok75 : callable Go.Proofs.Tryz.prog 75 = true := by kernel_rfl
theorem FactKit6.ok76 : callable Go.Proofs.Tryz.prog 76 = true := by kernel_rfl
theorem FactKit6.ok77 : callable Go.Proofs.Tryz.prog 77 = true := by kernel_rfl
theorem FactKit6.ok78 : callable Go.Proofs.Tryz.prog 78 = true := by kernel_rfl
theorem FactKit6.ok79 : callable Go.Proofs.Tryz.prog 79 = true := by kernel_rfl
theorem FactKit6.ok80 : callable Go.Proofs.Tryz.prog 80 = true := by kernel_rfl
theorem FactKit6.ok81 : callable Go.Proofs.Tryz.prog 81 = true := by kernel_rfl
theorem FactKit6.ok82 : callable Go.Proofs.Tryz.prog 82 = true := by kernel_rfl
theorem FactKit6.size22 : (Go.Proofs.Tryz.prog.info? 22).map (·.size) = some 1 := by kernel_rfl

/-- a bag of bytes alone -/
def bagB (u : Value) : List Value := [.slice none 0 0, .slice none 0 0, .slice none 0 0, .slice none 0 0, .slice none 0 0, u, .slice none 0 0, .slice none 0 0, .slice none 0 0, .slice none 0 0, .slice none 0 0, .slice none 0 0, .slice none 0 0, .slice none 0 0, .slice none 0 0, .slice none 0 0, .slice none 0 0, .slice none 0 0, .slice none 0 0, .slice none 0 0, .slice none 0 0, .slice none 0 0, .slice none 0 0, .slice none 0 0]
theorem putBytes_c {r : Fr} {b : Nat} {a a1 : Option Addr} {c m1 c1 : Nat} {ws : List Value} (hb : ws.length ≤ 1000000000) :
    Con Go.Proofs.Tryz.prog 35 #[.pointer (some ⟨b, 0, none⟩), .slice a1 m1 c1] r [obj b 94 (bagB (.slice a ws.length c)), OwnP Rp.val 22 (.slice a ws.length c) ws]
      (Ret fun v η => ∃ a' c', v = .tuple #[] ∧ η = [obj b 94 (bagB (.slice a' (ws.length + 1) c')), OwnP Rp.val 22 (.slice a' (ws.length + 1) c') (ws ++ [.slice a1 m1 c1])]) := by
  refine Con.of (n := 14) [.pointer (some ⟨b, 0, none⟩), .slice a1 m1 c1] rfl Go.Proofs.Tryz.func35 rfl rfl rfl fun g hg R hR => ?_
  unfold bagB
  refine S.region rfl ?_
  refine O.op (.p rfl) (.mv rfl) ?_
  refine O.op (.p rfl) (.mv rfl) ?_
  refine O.op (.p rfl) (.nilCheck rfl) ?_
  refine O.op (.p rfl) (.fieldObj FactKit6.fld94x5 rfl) ?_
  refine O.op (.p rfl) (.loadObj FactKit6.flat34 rfl (by repeat (first | exact Sel.here | apply Sel.there)) rfl) ?_
  refine O.op (.p rfl) (.mv rfl) ?_
  refine O.opE (.p rfl) (.litP (T := Rp.val) (ys := [_]) Go.Proofs.Tryz.underlying34 FactKit6.elem22 (by decide) rfl rfl ⟨⟨rfl, rfl⟩, trivial⟩ (by decide)) ?_
  rintro _ _ ⟨a10, c10, rfl, rfl⟩
  refine O.opE (.p rfl) (.appendO (T := Rp.val) Go.Proofs.Tryz.underlying34 FactKit6.elem22 (by decide) rfl rfl (by repeat (first | exact Sel.here | apply Sel.there)) (by repeat (first | exact Sel.here | apply Sel.there)) (by first | omega | (simp; done) | (simp; omega) | decide) (by first | omega | (simp; done) | (simp; omega) | decide)) ?_
  rintro _ _ ⟨a11, c11, rfl, rfl⟩
  refine O.op (.p rfl) (.nilCheck rfl) ?_
  refine O.op (.p rfl) (.fieldObj FactKit6.fld94x5 rfl) ?_
  refine O.opU rfl (.store1 FactKit6.flat34 rfl rfl (by first | rfl | assumption) (by repeat (first | exact Sel.here | apply Sel.there)) (by first | (simp; done) | (simp [Value.cells]; done))) ?_
  refine O.nil ?_
  refine S.end0 Go.Proofs.Tryz.results35 fun w hw => Holds.end_ hR hw ?_
  exact ⟨_, ⟨a11, c11, rfl, rfl⟩, by repeat (first | exact Picks.all | exact Picks.nil | (apply Picks.cons; focus (repeat (first | exact Sel.here | apply Sel.there))) | apply Picks.skip)⟩
theorem apartB_c {r : Fr} {b : Nat} {u : Value} {vs : List Value} {xss : List (List UInt8)} (hls : Arr Rp.val r u vs) (hq : ∀ x ∈ xss, x.length ≤ 100000000) (hb : xss.length ≤ 100000000) :
    Con Go.Proofs.Tryz.prog 36 #[.pointer (some ⟨b, 0, none⟩)] r [obj b 94 (bagB u), RowsP Rp.u8 5 vs xss] (Ret fun v η => v = .bool true ∧ η = []) := by
  refine Con.of (n := 169) [.pointer (some ⟨b, 0, none⟩)] rfl Go.Proofs.Tryz.func36 rfl rfl rfl fun g hg R hR => ?_
  have hls := hls.mono hg
  unfold bagB
  refine S.seq (S.region rfl ?_)
  refine O.op (.p rfl) (.as rfl) ?_
  refine O.nil ?_
  refine S.seq (S.region rfl ?_)
  refine O.op (.p rfl) (.mv rfl) ?_
  refine O.op (.p rfl) (.nilCheck rfl) ?_
  refine O.op (.p rfl) (.fieldObj FactKit6.fld94x0 rfl) ?_
  refine O.op (.p rfl) (.loadObj FactKit6.flat71 rfl (by repeat (first | exact Sel.here | apply Sel.there)) rfl) ?_
  refine O.call0 (.p rfl) rfl FactKit6.ok59 rfl rfl (flatLimbs_0) ?_
  rintro v7 _ ⟨rfl, rfl⟩
  try simp only [List.cons_append, List.nil_append, List.append_nil]
  refine O.slot 7 (v' := .bool true) rfl (congrArg Value.bool (by first | decide | simp)) ?_
  refine O.op (.p rfl) (.mv rfl) ?_
  refine O.op (.g rfl rfl) (.mv rfl) ?_
  refine O.op (.g rfl rfl) (.nilCheck rfl) ?_
  refine O.op (.g rfl rfl) (.fieldObj FactKit6.fld94x1 rfl) ?_
  refine O.op (.g rfl rfl) (.loadObj FactKit6.flat72 rfl (by repeat (first | exact Sel.here | apply Sel.there)) rfl) ?_
  refine O.call0 (.g rfl rfl) rfl FactKit6.ok60 rfl rfl (flatWords_0) ?_
  rintro v13 _ ⟨rfl, rfl⟩
  try simp only [List.cons_append, List.nil_append, List.append_nil]
  refine O.slot 13 (v' := .bool true) rfl (congrArg Value.bool (by first | decide | simp)) ?_
  refine O.op (.p rfl) (.pickT rfl rfl) ?_
  refine O.op (.p rfl) (.mv rfl) ?_
  refine O.op (.g rfl rfl) (.mv rfl) ?_
  refine O.op (.g rfl rfl) (.nilCheck rfl) ?_
  refine O.op (.g rfl rfl) (.fieldObj FactKit6.fld94x2 rfl) ?_
  refine O.op (.g rfl rfl) (.loadObj FactKit6.flat73 rfl (by repeat (first | exact Sel.here | apply Sel.there)) rfl) ?_
  refine O.call0 (.g rfl rfl) rfl FactKit6.ok61 rfl rfl (flatInts_0) ?_
  rintro v20 _ ⟨rfl, rfl⟩
  try simp only [List.cons_append, List.nil_append, List.append_nil]
  refine O.slot 20 (v' := .bool true) rfl (congrArg Value.bool (by first | decide | simp)) ?_
  refine O.op (.p rfl) (.pickT rfl rfl) ?_
  refine O.op (.p rfl) (.mv rfl) ?_
  refine O.op (.g rfl rfl) (.mv rfl) ?_
  refine O.op (.g rfl rfl) (.nilCheck rfl) ?_
  refine O.op (.g rfl rfl) (.fieldObj FactKit6.fld94x3 rfl) ?_
  refine O.op (.g rfl rfl) (.loadObj FactKit6.flat74 rfl (by repeat (first | exact Sel.here | apply Sel.there)) rfl) ?_
  refine O.call0 (.g rfl rfl) rfl FactKit6.ok62 rfl rfl (flatLongs_0) ?_
  rintro v27 _ ⟨rfl, rfl⟩
  try simp only [List.cons_append, List.nil_append, List.append_nil]
  refine O.slot 27 (v' := .bool true) rfl (congrArg Value.bool (by first | decide | simp)) ?_
  refine O.op (.p rfl) (.pickT rfl rfl) ?_
  refine O.op (.p rfl) (.mv rfl) ?_
  refine O.op (.g rfl rfl) (.mv rfl) ?_
  refine O.op (.g rfl rfl) (.nilCheck rfl) ?_
  refine O.op (.g rfl rfl) (.fieldObj FactKit6.fld94x4 rfl) ?_
  refine O.op (.g rfl rfl) (.loadObj FactKit6.flat38 rfl (by repeat (first | exact Sel.here | apply Sel.there)) rfl) ?_
  refine O.call0 (.g rfl rfl) rfl FactKit6.ok63 rfl rfl (flatTexts_0) ?_
  rintro v34 _ ⟨rfl, rfl⟩
  try simp only [List.cons_append, List.nil_append, List.append_nil]
  refine O.slot 34 (v' := .bool true) rfl (congrArg Value.bool (by first | decide | simp)) ?_
  refine O.op (.p rfl) (.pickT rfl rfl) ?_
  refine O.op (.p rfl) (.mv rfl) ?_
  refine O.op (.g rfl rfl) (.mv rfl) ?_
  refine O.op (.g rfl rfl) (.nilCheck rfl) ?_
  refine O.op (.g rfl rfl) (.fieldObj FactKit6.fld94x5 rfl) ?_
  refine O.op (.g rfl rfl) (.loadObj FactKit6.flat34 rfl (by repeat (first | exact Sel.here | apply Sel.there)) rfl) ?_
  refine O.callS (.g rfl rfl) rfl FactKit6.ok64 rfl rfl (by repeat (first | exact Sel.here | apply Sel.there)) (flatBytes_c hls hq hb) ?_
  rintro v41 _ ⟨rfl, rfl⟩
  try simp only [List.cons_append, List.nil_append, List.append_nil]
  refine O.slot 41 (v' := .bool true) rfl (congrArg Value.bool (by first | decide | simp)) ?_
  refine O.op (.p rfl) (.pickT rfl rfl) ?_
  refine O.op (.p rfl) (.mv rfl) ?_
  refine O.op (.g rfl rfl) (.mv rfl) ?_
  refine O.op (.g rfl rfl) (.nilCheck rfl) ?_
  refine O.op (.g rfl rfl) (.fieldObj FactKit6.fld94x6 rfl) ?_
  refine O.op (.g rfl rfl) (.loadObj FactKit6.flat75 rfl (by repeat (first | exact Sel.here | apply Sel.there)) rfl) ?_
  refine O.call0 (.g rfl rfl) rfl FactKit6.ok65 rfl rfl (flatTruths_0) ?_
  rintro v48 _ ⟨rfl, rfl⟩
  try simp only [List.cons_append, List.nil_append, List.append_nil]
  refine O.slot 48 (v' := .bool true) rfl (congrArg Value.bool (by first | decide | simp)) ?_
  refine O.op (.p rfl) (.pickT rfl rfl) ?_
  refine O.op (.p rfl) (.mv rfl) ?_
  refine O.op (.g rfl rfl) (.mv rfl) ?_
  refine O.op (.g rfl rfl) (.nilCheck rfl) ?_
  refine O.op (.g rfl rfl) (.fieldObj FactKit6.fld94x7 rfl) ?_
  refine O.op (.g rfl rfl) (.loadObj FactKit6.flat76 rfl (by repeat (first | exact Sel.here | apply Sel.there)) rfl) ?_
  refine O.call0 (.g rfl rfl) rfl FactKit6.ok66 rfl rfl (flatRows_0) ?_
  rintro v55 _ ⟨rfl, rfl⟩
  try simp only [List.cons_append, List.nil_append, List.append_nil]
  refine O.slot 55 (v' := .bool true) rfl (congrArg Value.bool (by first | decide | simp)) ?_
  refine O.op (.p rfl) (.pickT rfl rfl) ?_
  refine O.op (.p rfl) (.mv rfl) ?_
  refine O.op (.g rfl rfl) (.mv rfl) ?_
  refine O.op (.g rfl rfl) (.nilCheck rfl) ?_
  refine O.op (.g rfl rfl) (.fieldObj FactKit6.fld94x8 rfl) ?_
  refine O.op (.g rfl rfl) (.loadObj FactKit6.flat77 rfl (by repeat (first | exact Sel.here | apply Sel.there)) rfl) ?_
  refine O.call0 (.g rfl rfl) rfl FactKit6.ok67 rfl rfl (flatDots_0) ?_
  rintro v62 _ ⟨rfl, rfl⟩
  try simp only [List.cons_append, List.nil_append, List.append_nil]
  refine O.slot 62 (v' := .bool true) rfl (congrArg Value.bool (by first | decide | simp)) ?_
  refine O.op (.p rfl) (.pickT rfl rfl) ?_
  refine O.op (.p rfl) (.mv rfl) ?_
  refine O.op (.g rfl rfl) (.mv rfl) ?_
  refine O.op (.g rfl rfl) (.nilCheck rfl) ?_
  refine O.op (.g rfl rfl) (.fieldObj FactKit6.fld94x9 rfl) ?_
  refine O.op (.g rfl rfl) (.loadObj FactKit6.flat78 rfl (by repeat (first | exact Sel.here | apply Sel.there)) rfl) ?_
  refine O.call0 (.g rfl rfl) rfl FactKit6.ok68 rfl rfl (flatRecords_0) ?_
  rintro v69 _ ⟨rfl, rfl⟩
  try simp only [List.cons_append, List.nil_append, List.append_nil]
  refine O.slot 69 (v' := .bool true) rfl (congrArg Value.bool (by first | decide | simp)) ?_
  refine O.op (.p rfl) (.pickT rfl rfl) ?_
  refine O.op (.p rfl) (.mv rfl) ?_
  refine O.op (.g rfl rfl) (.mv rfl) ?_
  refine O.op (.g rfl rfl) (.nilCheck rfl) ?_
  refine O.op (.g rfl rfl) (.fieldObj FactKit6.fld94x10 rfl) ?_
  refine O.op (.g rfl rfl) (.loadObj FactKit6.flat79 rfl (by repeat (first | exact Sel.here | apply Sel.there)) rfl) ?_
  refine O.call0 (.g rfl rfl) rfl FactKit6.ok69 rfl rfl (flatLeaves_0) ?_
  rintro v76 _ ⟨rfl, rfl⟩
  try simp only [List.cons_append, List.nil_append, List.append_nil]
  refine O.slot 76 (v' := .bool true) rfl (congrArg Value.bool (by first | decide | simp)) ?_
  refine O.op (.p rfl) (.pickT rfl rfl) ?_
  refine O.op (.p rfl) (.mv rfl) ?_
  refine O.op (.g rfl rfl) (.mv rfl) ?_
  refine O.op (.g rfl rfl) (.nilCheck rfl) ?_
  refine O.op (.g rfl rfl) (.fieldObj FactKit6.fld94x11 rfl) ?_
  refine O.op (.g rfl rfl) (.loadObj FactKit6.flat80 rfl (by repeat (first | exact Sel.here | apply Sel.there)) rfl) ?_
  refine O.call0 (.g rfl rfl) rfl FactKit6.ok70 rfl rfl (flatGrants_0) ?_
  rintro v83 _ ⟨rfl, rfl⟩
  try simp only [List.cons_append, List.nil_append, List.append_nil]
  refine O.slot 83 (v' := .bool true) rfl (congrArg Value.bool (by first | decide | simp)) ?_
  refine O.op (.p rfl) (.pickT rfl rfl) ?_
  refine O.op (.p rfl) (.mv rfl) ?_
  refine O.op (.g rfl rfl) (.mv rfl) ?_
  refine O.op (.g rfl rfl) (.nilCheck rfl) ?_
  refine O.op (.g rfl rfl) (.fieldObj FactKit6.fld94x12 rfl) ?_
  refine O.op (.g rfl rfl) (.loadObj FactKit6.flat81 rfl (by repeat (first | exact Sel.here | apply Sel.there)) rfl) ?_
  refine O.call0 (.g rfl rfl) rfl FactKit6.ok71 rfl rfl (flatNodes_0) ?_
  rintro v90 _ ⟨rfl, rfl⟩
  try simp only [List.cons_append, List.nil_append, List.append_nil]
  refine O.slot 90 (v' := .bool true) rfl (congrArg Value.bool (by first | decide | simp)) ?_
  refine O.op (.p rfl) (.pickT rfl rfl) ?_
  refine O.op (.p rfl) (.mv rfl) ?_
  refine O.op (.g rfl rfl) (.mv rfl) ?_
  refine O.op (.g rfl rfl) (.nilCheck rfl) ?_
  refine O.op (.g rfl rfl) (.fieldObj FactKit6.fld94x13 rfl) ?_
  refine O.op (.g rfl rfl) (.loadObj FactKit6.flat82 rfl (by repeat (first | exact Sel.here | apply Sel.there)) rfl) ?_
  refine O.call0 (.g rfl rfl) rfl FactKit6.ok72 rfl rfl (flatStubs_0) ?_
  rintro v97 _ ⟨rfl, rfl⟩
  try simp only [List.cons_append, List.nil_append, List.append_nil]
  refine O.slot 97 (v' := .bool true) rfl (congrArg Value.bool (by first | decide | simp)) ?_
  refine O.op (.p rfl) (.pickT rfl rfl) ?_
  refine O.op (.p rfl) (.mv rfl) ?_
  refine O.op (.g rfl rfl) (.mv rfl) ?_
  refine O.op (.g rfl rfl) (.nilCheck rfl) ?_
  refine O.op (.g rfl rfl) (.fieldObj FactKit6.fld94x14 rfl) ?_
  refine O.op (.g rfl rfl) (.loadObj FactKit6.flat83 rfl (by repeat (first | exact Sel.here | apply Sel.there)) rfl) ?_
  refine O.call0 (.g rfl rfl) rfl FactKit6.ok73 rfl rfl (flatProofs_0) ?_
  rintro v104 _ ⟨rfl, rfl⟩
  try simp only [List.cons_append, List.nil_append, List.append_nil]
  refine O.slot 104 (v' := .bool true) rfl (congrArg Value.bool (by first | decide | simp)) ?_
  refine O.op (.p rfl) (.pickT rfl rfl) ?_
  refine O.op (.p rfl) (.mv rfl) ?_
  refine O.op (.g rfl rfl) (.mv rfl) ?_
  refine O.op (.g rfl rfl) (.nilCheck rfl) ?_
  refine O.op (.g rfl rfl) (.fieldObj FactKit6.fld94x15 rfl) ?_
  refine O.op (.g rfl rfl) (.loadObj FactKit6.flat84 rfl (by repeat (first | exact Sel.here | apply Sel.there)) rfl) ?_
  refine O.call0 (.g rfl rfl) rfl FactKit6.ok74 rfl rfl (flatRoots_0) ?_
  rintro v111 _ ⟨rfl, rfl⟩
  try simp only [List.cons_append, List.nil_append, List.append_nil]
  refine O.slot 111 (v' := .bool true) rfl (congrArg Value.bool (by first | decide | simp)) ?_
  refine O.op (.p rfl) (.pickT rfl rfl) ?_
  refine O.op (.p rfl) (.mv rfl) ?_
  refine O.op (.g rfl rfl) (.mv rfl) ?_
  refine O.op (.g rfl rfl) (.nilCheck rfl) ?_
  refine O.op (.g rfl rfl) (.fieldObj FactKit6.fld94x16 rfl) ?_
  refine O.op (.g rfl rfl) (.loadObj FactKit6.flat85 rfl (by repeat (first | exact Sel.here | apply Sel.there)) rfl) ?_
  refine O.call0 (.g rfl rfl) rfl FactKit6.ok75 rfl rfl (flatEvidenceRow_0) ?_
  rintro v118 _ ⟨rfl, rfl⟩
  try simp only [List.cons_append, List.nil_append, List.append_nil]
  refine O.slot 118 (v' := .bool true) rfl (congrArg Value.bool (by first | decide | simp)) ?_
  refine O.op (.p rfl) (.pickT rfl rfl) ?_
  refine O.op (.p rfl) (.mv rfl) ?_
  refine O.op (.g rfl rfl) (.mv rfl) ?_
  refine O.op (.g rfl rfl) (.nilCheck rfl) ?_
  refine O.op (.g rfl rfl) (.fieldObj FactKit6.fld94x17 rfl) ?_
  refine O.op (.g rfl rfl) (.loadObj FactKit6.flat86 rfl (by repeat (first | exact Sel.here | apply Sel.there)) rfl) ?_
  refine O.call0 (.g rfl rfl) rfl FactKit6.ok76 rfl rfl (flatFrames_0) ?_
  rintro v125 _ ⟨rfl, rfl⟩
  try simp only [List.cons_append, List.nil_append, List.append_nil]
  refine O.slot 125 (v' := .bool true) rfl (congrArg Value.bool (by first | decide | simp)) ?_
  refine O.op (.p rfl) (.pickT rfl rfl) ?_
  refine O.op (.p rfl) (.mv rfl) ?_
  refine O.op (.g rfl rfl) (.mv rfl) ?_
  refine O.op (.g rfl rfl) (.nilCheck rfl) ?_
  refine O.op (.g rfl rfl) (.fieldObj FactKit6.fld94x18 rfl) ?_
  refine O.op (.g rfl rfl) (.loadObj FactKit6.flat87 rfl (by repeat (first | exact Sel.here | apply Sel.there)) rfl) ?_
  refine O.call0 (.g rfl rfl) rfl FactKit6.ok77 rfl rfl (flatPackets_0) ?_
  rintro v132 _ ⟨rfl, rfl⟩
  try simp only [List.cons_append, List.nil_append, List.append_nil]
  refine O.slot 132 (v' := .bool true) rfl (congrArg Value.bool (by first | decide | simp)) ?_
  refine O.op (.p rfl) (.pickT rfl rfl) ?_
  refine O.op (.p rfl) (.mv rfl) ?_
  refine O.op (.g rfl rfl) (.mv rfl) ?_
  refine O.op (.g rfl rfl) (.nilCheck rfl) ?_
  refine O.op (.g rfl rfl) (.fieldObj FactKit6.fld94x19 rfl) ?_
  refine O.op (.g rfl rfl) (.loadObj FactKit6.flat88 rfl (by repeat (first | exact Sel.here | apply Sel.there)) rfl) ?_
  refine O.call0 (.g rfl rfl) rfl FactKit6.ok78 rfl rfl (flatEntries_0) ?_
  rintro v139 _ ⟨rfl, rfl⟩
  try simp only [List.cons_append, List.nil_append, List.append_nil]
  refine O.slot 139 (v' := .bool true) rfl (congrArg Value.bool (by first | decide | simp)) ?_
  refine O.op (.p rfl) (.pickT rfl rfl) ?_
  refine O.op (.p rfl) (.mv rfl) ?_
  refine O.op (.g rfl rfl) (.mv rfl) ?_
  refine O.op (.g rfl rfl) (.nilCheck rfl) ?_
  refine O.op (.g rfl rfl) (.fieldObj FactKit6.fld94x20 rfl) ?_
  refine O.op (.g rfl rfl) (.loadObj FactKit6.flat89 rfl (by repeat (first | exact Sel.here | apply Sel.there)) rfl) ?_
  refine O.call0 (.g rfl rfl) rfl FactKit6.ok79 rfl rfl (flatHeldRow_0) ?_
  rintro v146 _ ⟨rfl, rfl⟩
  try simp only [List.cons_append, List.nil_append, List.append_nil]
  refine O.slot 146 (v' := .bool true) rfl (congrArg Value.bool (by first | decide | simp)) ?_
  refine O.op (.p rfl) (.pickT rfl rfl) ?_
  refine O.op (.p rfl) (.mv rfl) ?_
  refine O.op (.g rfl rfl) (.mv rfl) ?_
  refine O.op (.g rfl rfl) (.nilCheck rfl) ?_
  refine O.op (.g rfl rfl) (.fieldObj FactKit6.fld94x21 rfl) ?_
  refine O.op (.g rfl rfl) (.loadObj FactKit6.flat90 rfl (by repeat (first | exact Sel.here | apply Sel.there)) rfl) ?_
  refine O.call0 (.g rfl rfl) rfl FactKit6.ok80 rfl rfl (flatConfigs_0) ?_
  rintro v153 _ ⟨rfl, rfl⟩
  try simp only [List.cons_append, List.nil_append, List.append_nil]
  refine O.slot 153 (v' := .bool true) rfl (congrArg Value.bool (by first | decide | simp)) ?_
  refine O.op (.p rfl) (.pickT rfl rfl) ?_
  refine O.op (.p rfl) (.mv rfl) ?_
  refine O.op (.g rfl rfl) (.mv rfl) ?_
  refine O.op (.g rfl rfl) (.nilCheck rfl) ?_
  refine O.op (.g rfl rfl) (.fieldObj FactKit6.fld94x22 rfl) ?_
  refine O.op (.g rfl rfl) (.loadObj FactKit6.flat91 rfl (by repeat (first | exact Sel.here | apply Sel.there)) rfl) ?_
  refine O.call0 (.g rfl rfl) rfl FactKit6.ok81 rfl rfl (flatSteps_0) ?_
  rintro v160 _ ⟨rfl, rfl⟩
  try simp only [List.cons_append, List.nil_append, List.append_nil]
  refine O.slot 160 (v' := .bool true) rfl (congrArg Value.bool (by first | decide | simp)) ?_
  refine O.op (.p rfl) (.pickT rfl rfl) ?_
  refine O.op (.p rfl) (.mv rfl) ?_
  refine O.op (.g rfl rfl) (.mv rfl) ?_
  refine O.op (.g rfl rfl) (.nilCheck rfl) ?_
  refine O.op (.g rfl rfl) (.fieldObj FactKit6.fld94x23 rfl) ?_
  refine O.op (.g rfl rfl) (.loadObj FactKit6.flat92 rfl (by repeat (first | exact Sel.here | apply Sel.there)) rfl) ?_
  refine O.call0 (.g rfl rfl) rfl FactKit6.ok82 rfl rfl (flatTales_0) ?_
  rintro v167 _ ⟨rfl, rfl⟩
  try simp only [List.cons_append, List.nil_append, List.append_nil]
  refine O.slot 167 (v' := .bool true) rfl (congrArg Value.bool (by first | decide | simp)) ?_
  refine O.op (.p rfl) (.pickT rfl rfl) ?_
  refine O.op (.p rfl) (.as rfl) ?_
  refine O.nil ?_
  refine S.ret Go.Proofs.Tryz.results36 rfl fun w hw => Holds.end_ hR hw ?_
  exact ⟨_, ⟨rfl, rfl⟩, by repeat (first | exact Picks.all | exact Picks.nil | (apply Picks.cons; focus (repeat (first | exact Sel.here | apply Sel.there))) | apply Picks.skip)⟩
theorem ApartBytes_c {r : Fr} {va : Value} {vs : List Value} {xss : List (List UInt8)} (hls : Arr Rp.val r va vs) (hq : ∀ x ∈ xss, x.length ≤ 100000000) (hb : xss.length ≤ 100000000) :
    Con Go.Proofs.Tryz.prog 15 #[va] r [RowsP Rp.u8 5 vs xss] (Ret fun v η => v = .bool true ∧ η = []) := by
  refine Con.of (n := 21) [va] rfl Go.Proofs.Tryz.func15 rfl rfl rfl fun g hg R hR => ?_
  have hls := hls.mono hg
  obtain ⟨a1, c1, rfl⟩ := hls.shape
  refine S.factS Sel.here (fun _ x => EachP.len x) fun hlen => ?_
  refine S.factS Sel.here (fun _ x => EachP.all2 (R := fun v x => ∃ a c, v = .slice a x.length c) (fun _ _ _ y _ => OwnP.shape y) x (Fr.sub_refl _)) fun hsh => ?_
  refine S.seq (S.region rfl ?_)
  refine O.op (.p rfl) (.as rfl) ?_
  refine O.nil ?_
  refine S.seq (S.region rfl ?_)
  refine O.op (.p rfl) (.build (cs := [_, _, _, _, _, _, _, _, _, _, _, _, _, _, _, _, _, _, _, _, _, _, _, _]) Go.Proofs.Tryz.underlying94 rfl rfl rfl rfl rfl) ?_
  refine O.opE (.p rfl) (.box (cs := [_, _, _, _, _, _, _, _, _, _, _, _, _, _, _, _, _, _, _, _, _, _, _, _]) rfl rfl) ?_
  rintro _ _ ⟨b6, rfl, rfl⟩
  refine O.op (.p rfl) (.as rfl) ?_
  refine O.nil ?_
  refine S.seq (S.seq (S.region rfl ?_))
  refine O.op (.p rfl) (.as rfl) ?_
  refine O.nil ?_
  refine S.block ?_
  refine S.addNil (T := Rp.val) (e := 22) ?_
  refine S.loopK3 (ι := Nat) (κ := Option Addr) (υ := Nat) (fun k a c => k ≤ vs.length) (fun k a c => [(4, .int .i64 (k : Int))]) [(0, _), (3, _)] (fun k a c => [OwnP Rp.val 22 (.slice a (vs.take k).length c) (vs.take k), obj b6 94 (bagB (.slice a (vs.take k).length c)), RowsP Rp.u8 5 vs xss]) (fun k a c => vs.length - k) (0) (none) (0) (by simp) (.cons rfl (.nil)) (.cons rfl (.cons rfl (.nil))) rfl fun k a c hx ih => ?_
  have hm1 := meltRefl (g := g)
  refine S.seq (S.seq (S.region rfl ?_))
  refine O.op (.p rfl) (.mv rfl) ?_
  refine O.op (.p rfl) (.mv rfl) ?_
  refine O.op (.p rfl) (.len rfl Go.Proofs.Tryz.underlying34 rfl) ?_
  refine O.op (.p rfl) (.lss rfl rfl) ?_
  refine O.nil ?_
  first | refine S.condD rfl (fun h10 => ?_) (fun h10 => ?_) | refine S.condB rfl (fun h10 => ?_) (fun h10 => ?_)
  · have hk : k < vs.length := by omega
    obtain ⟨ak, ck, hvk⟩ := hsh.get k hk (by omega)
    have hl : (vs.take k).length = k := by simp; omega
    refine S.skip (S.seq (S.block (S.region rfl ?_)))
    refine O.op (.p rfl) (.mv rfl) ?_
    refine O.op (.p rfl) (.mv rfl) ?_
    refine O.op (.p rfl) (.mv rfl) ?_
    refine O.idx' (.p rfl) Go.Proofs.Tryz.underlying34 FactKit6.size22 rfl rfl rfl (hls) (by decide) (by first | omega | (simp; done) | (simp; omega) | decide) (fun p16 cs16 hp16 hr16 => ?_)
    obtain ⟨rfl, _⟩ := hr16
    refine O.op (.p rfl) (.loadAt FactKit6.flat22 rfl hp16 rfl) ?_
    refine O.slot 17 (v' := .slice ak xss[k].length ck) rfl (by exact hvk) ?_
    refine O.callSs (.p rfl) rfl FactKit6.ok35 rfl rfl (by repeat (first | exact Sels.nil | (apply Sels.cons; focus (repeat (first | exact Sel.here | apply Sel.there))))) (putBytes_c (by omega)) ?_
    rintro v18 _ ⟨a18, c18, rfl, rfl⟩
    try simp only [List.cons_append, List.nil_append, List.append_nil]
    refine O.nil ?_
    refine S.inBlock (S.region rfl ?_)
    refine O.op (.p rfl) (.mv rfl) ?_
    refine O.op (.p rfl) (.add rfl rfl (IntWalk.i64_in _ (by omega))) ?_
    refine O.op (.p rfl) (.as rfl) ?_
    refine O.nil ?_
    rw [← hvk, ← List.take_succ_eq_append_getElem hk]
    have hl2 : (vs.take k).length + 1 = (vs.take (k + 1)).length := by simp; omega
    rw [hl2]
    refine S.pk ?_ (S.weaken ?_ (ih (k + 1) (a18) (c18) (by omega) (by omega)))
    · repeat (first | exact Picks.all | exact Picks.nil | (apply Picks.cons; focus (repeat (first | exact Sel.here | apply Sel.there))) | apply Picks.skip)
    repeat (first | exact Sub.nil | refine Sub.cons rfl ?_)
  · have hk : k = vs.length := by omega
    subst hk
    rw [List.take_length]
    refine S.frzA (by repeat (first | exact Sel.here | apply Sel.there)) fun g hs hm hbag => ?_
    replace hg := Fr.sub_trans hg hs
    replace hR := melted hR hm
    try replace hls := hls.mono hs
    replace hm1 := meltTrans hm1 hm
    clear hs hm
    refine S.exit rfl ?_
    refine S.seq (S.region rfl ?_)
    refine O.op (.p rfl) (.mv rfl) ?_
    refine O.callSs (.p rfl) rfl FactKit6.ok36 rfl rfl (by repeat (first | exact Sels.nil | (apply Sels.cons; focus (repeat (first | exact Sel.here | apply Sel.there))))) (apartB_c hbag hq hb) ?_
    rintro v20 _ ⟨rfl, rfl⟩
    try simp only [List.cons_append, List.nil_append, List.append_nil]
    refine O.op (.p rfl) (.as rfl) ?_
    refine O.nil ?_
    refine S.ret Go.Proofs.Tryz.results15 rfl fun w hw => Holds.end_ hR hw ?_
    exact ⟨_, ⟨rfl, rfl⟩, by repeat (first | exact Picks.all | exact Picks.nil | (apply Picks.cons; focus (repeat (first | exact Sel.here | apply Sel.there))) | apply Picks.skip)⟩

end Go.Proofs.YtkkcpckgnfcncaaGreatDoor
