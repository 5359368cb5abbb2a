import Derived.Test.YtcghiboamlaenaaGreatKit5
open Go Go.Sp
set_option maxRecDepth 100000
attribute [local irreducible] obj Own OwnP
namespace Go.Proofs.YtcghiboamlaenaaGreat
theorem FactKit6.elem23 : elemIs Go.Proofs.Tryz.prog 23 1 24 [.slice none 0 0] := elemIs.mk (by kernel_rfl) rfl
theorem FactKit6.flat23 : Go.Sp.flat1 Go.Proofs.Tryz.prog 23 = true := by kernel_rfl
theorem FactKit6.flat34 : Go.Sp.flat1 Go.Proofs.Tryz.prog 34 = true := by kernel_rfl
theorem FactKit6.flat42 : Go.Sp.flat1 Go.Proofs.Tryz.prog 42 = true := by kernel_rfl
theorem FactKit6.flat48 : Go.Sp.flat1 Go.Proofs.Tryz.prog 48 = true := by kernel_rfl
theorem FactKit6.flat49 : Go.Sp.flat1 Go.Proofs.Tryz.prog 49 = true := by kernel_rfl
theorem FactKit6.flat50 : Go.Sp.flat1 Go.Proofs.Tryz.prog 50 = true := by kernel_rfl
theorem FactKit6.flat51 : Go.Sp.flat1 Go.Proofs.Tryz.prog 51 = true := by kernel_rfl
theorem FactKit6.flat52 : Go.Sp.flat1 Go.Proofs.Tryz.prog 52 = true := by kernel_rfl
theorem FactKit6.flat53 : Go.Sp.flat1 Go.Proofs.Tryz.prog 53 = true := by kernel_rfl
theorem FactKit6.flat54 : Go.Sp.flat1 Go.Proofs.Tryz.prog 54 = true := by kernel_rfl
theorem FactKit6.flat55 : Go.Sp.flat1 Go.Proofs.Tryz.prog 55 = true := by kernel_rfl
theorem FactKit6.flat56 : Go.Sp.flat1 Go.Proofs.Tryz.prog 56 = true := by kernel_rfl
theorem FactKit6.flat57 : Go.Sp.flat1 Go.Proofs.Tryz.prog 57 = true := by kernel_rfl
theorem FactKit6.flat58 : Go.Sp.flat1 Go.Proofs.Tryz.prog 58 = true := by kernel_rfl
theorem FactKit6.flat59 : Go.Sp.flat1 Go.Proofs.Tryz.prog 59 = true := by kernel_rfl
theorem FactKit6.flat60 : Go.Sp.flat1 Go.Proofs.Tryz.prog 60 = true := by kernel_rfl
theorem FactKit6.flat61 : Go.Sp.flat1 Go.Proofs.Tryz.prog 61 = true := by kernel_rfl
theorem FactKit6.flat62 : Go.Sp.flat1 Go.Proofs.Tryz.prog 62 = true := by kernel_rfl
theorem FactKit6.flat63 : Go.Sp.flat1 Go.Proofs.Tryz.prog 63 = true := by kernel_rfl
theorem FactKit6.flat64 : Go.Sp.flat1 Go.Proofs.Tryz.prog 64 = true := by kernel_rfl
theorem FactKit6.flat65 : Go.Sp.flat1 Go.Proofs.Tryz.prog 65 = true := by kernel_rfl
theorem FactKit6.flat66 : Go.Sp.flat1 Go.Proofs.Tryz.prog 66 = true := by kernel_rfl
theorem FactKit6.flat67 : Go.Sp.flat1 Go.Proofs.Tryz.prog 67 = true := by kernel_rfl
theorem FactKit6.flat68 : Go.Sp.flat1 Go.Proofs.Tryz.prog 68 = true := by kernel_rfl
theorem FactKit6.flat69 : Go.Sp.flat1 Go.Proofs.Tryz.prog 69 = true := by kernel_rfl
theorem FactKit6.fld71x0 : fieldOff Go.Proofs.Tryz.prog 71 0 = some 0 := by kernel_rfl
theorem FactKit6.fld71x1 : fieldOff Go.Proofs.Tryz.prog 71 1 = some 1 := by kernel_rfl
theorem FactKit6.fld71x10 : fieldOff Go.Proofs.Tryz.prog 71 10 = some 10 := by kernel_rfl
theorem FactKit6.fld71x11 : fieldOff Go.Proofs.Tryz.prog 71 11 = some 11 := by kernel_rfl
theorem FactKit6.fld71x12 : fieldOff Go.Proofs.Tryz.prog 71 12 = some 12 := by kernel_rfl
theorem FactKit6.fld71x13 : fieldOff Go.Proofs.Tryz.prog 71 13 = some 13 := by kernel_rfl
theorem FactKit6.fld71x14 : fieldOff Go.Proofs.Tryz.prog 71 14 = some 14 := by kernel_rfl
theorem FactKit6.fld71x15 : fieldOff Go.Proofs.Tryz.prog 71 15 = some 15 := by kernel_rfl
theorem FactKit6.fld71x16 : fieldOff Go.Proofs.Tryz.prog 71 16 = some 16 := by kernel_rfl
theorem FactKit6.fld71x17 : fieldOff Go.Proofs.Tryz.prog 71 17 = some 17 := by kernel_rfl
theorem FactKit6.fld71x18 : fieldOff Go.Proofs.Tryz.prog 71 18 = some 18 := by kernel_rfl
theorem FactKit6.fld71x19 : fieldOff Go.Proofs.Tryz.prog 71 19 = some 19 := by kernel_rfl
theorem FactKit6.fld71x2 : fieldOff Go.Proofs.Tryz.prog 71 2 = some 2 := by kernel_rfl
theorem FactKit6.fld71x20 : fieldOff Go.Proofs.Tryz.prog 71 20 = some 20 := by kernel_rfl
theorem FactKit6.fld71x21 : fieldOff Go.Proofs.Tryz.prog 71 21 = some 21 := by kernel_rfl
theorem FactKit6.fld71x22 : fieldOff Go.Proofs.Tryz.prog 71 22 = some 22 := by kernel_rfl
theorem FactKit6.fld71x23 : fieldOff Go.Proofs.Tryz.prog 71 23 = some 23 := by kernel_rfl
theorem FactKit6.fld71x3 : fieldOff Go.Proofs.Tryz.prog 71 3 = some 3 := by kernel_rfl
theorem FactKit6.fld71x4 : fieldOff Go.Proofs.Tryz.prog 71 4 = some 4 := by kernel_rfl
theorem FactKit6.fld71x5 : fieldOff Go.Proofs.Tryz.prog 71 5 = some 5 := by kernel_rfl
theorem FactKit6.fld71x6 : fieldOff Go.Proofs.Tryz.prog 71 6 = some 6 := by kernel_rfl
theorem FactKit6.fld71x7 : fieldOff Go.Proofs.Tryz.prog 71 7 = some 7 := by kernel_rfl
theorem FactKit6.fld71x8 : fieldOff Go.Proofs.Tryz.prog 71 8 = some 8 := by kernel_rfl
theorem FactKit6.fld71x9 : fieldOff Go.Proofs.Tryz.prog 71 9 = some 9 := by kernel_rfl
theorem FactKit6.ok26 : callable Go.Proofs.Tryz.prog 26 = true := by kernel_rfl
theorem FactKit6.ok27 : callable Go.Proofs.Tryz.prog 27 = true := by kernel_rfl
theorem FactKit6.ok33 : callable Go.Proofs.Tryz.prog 33 = true := by kernel_rfl
theorem FactKit6.ok34 : callable Go.Proofs.Tryz.prog 34 = true := by kernel_rfl
theorem FactKit6.ok35 : callable Go.Proofs.Tryz.prog 35 = true := by kernel_rfl
theorem FactKit6.ok36 : callable Go.Proofs.Tryz.prog 36 = true := by kernel_rfl
theorem FactKit6.ok37 : callable Go.Proofs.Tryz.prog 37 = true := by kernel_rfl
theorem FactKit6.ok38 : callable Go.Proofs.Tryz.prog 38 = true := by kernel_rfl
theorem FactKit6.ok39 : callable Go.Proofs.Tryz.prog 39 = true := by kernel_rfl
theorem FactKit6.ok40 : callable Go.Proofs.Tryz.prog 40 = true := by kernel_rfl
theorem FactKit6.ok41 : callable Go.Proofs.Tryz.prog 41 = true := by kernel_rfl
theorem FactKit6.ok42 : callable Go.Proofs.Tryz.prog 42 = true := by kernel_rfl
theorem FactKit6.ok43 : callable Go.Proofs.Tryz.prog 43 = true := by kernel_rfl
theorem FactKit6.ok44 : callable Go.Proofs.Tryz.prog 44 = true := by kernel_rfl
theorem FactKit6.ok45 : callable Go.Proofs.Tryz.prog 45 = true := by kernel_rfl
theorem FactKit6.ok46 : callable Go.Proofs.Tryz.prog 46 = true := by kernel_rfl
theorem FactKit6.ok47 : callable Go.Proofs.Tryz.prog 47 = true := by kernel_rfl
theorem FactKit6.ok48 : callable Go.Proofs.Tryz.prog 48 = true := by kernel_rfl
theorem FactKit6.ok49 : callable Go.Proofs.Tryz.prog 49 = true := by kernel_rfl
theorem FactKit6.ok50 : callable Go.Proofs.Tryz.prog 50 = true := by kernel_rfl
theorem FactKit6.ok51 : callable Go.Proofs.Tryz.prog 51 = true := by kernel_rfl
theorem FactKit6.ok52 : callable Go.Proofs.Tryz.prog 52 = true := by kernel_rfl
theorem FactKit6.ok53 : callable Go.Proofs.Tryz.prog 53 = true := by kernel_rfl
theorem FactKit6.ok54 : callable Go.Proofs.Tryz.prog 54 = true := by kernel_rfl
theorem FactKit6.ok55 : callable Go.Proofs.Tryz.prog 55 = true := by kernel_rfl
theorem FactKit6.ok56 : callable Go.Proofs.Tryz.prog 56 = true := by kernel_rfl
theorem FactKit6.size23 : (Go.Proofs.Tryz.prog.info? 23).map (·.size) = some 1 := by kernel_rfl

/-- a bag of bytes alone -/
def bagB (u : Value) : List Value := [.slice none 0 0, .slice none 0 0, .slice none 0 0, .slice none 0 0, .slice none 0 0, u, .slice none 0 0, .slice none 0 0, .slice none 0 0, .slice none 0 0, .slice none 0 0, .slice none 0 0, .slice none 0 0, .slice none 0 0, .slice none 0 0, .slice none 0 0, .slice none 0 0, .slice none 0 0, .slice none 0 0, .slice none 0 0, .slice none 0 0, .slice none 0 0, .slice none 0 0, .slice none 0 0]
theorem putBytes_c {r : Fr} {b : Nat} {a a1 : Option Addr} {c m1 c1 : Nat} {ws : List Value} (hb : ws.length ≤ 1000000000) :
    Con Go.Proofs.Tryz.prog 26 #[.pointer (some ⟨b, 0, none⟩), .slice a1 m1 c1] r [obj b 71 (bagB (.slice a ws.length c)), OwnP Rp.val 23 (.slice a ws.length c) ws]
      (Ret fun v η => ∃ a' c', v = .tuple #[] ∧ η = [obj b 71 (bagB (.slice a' (ws.length + 1) c')), OwnP Rp.val 23 (.slice a' (ws.length + 1) c') (ws ++ [.slice a1 m1 c1])]) := by
  refine Con.of (n := 14) [.pointer (some ⟨b, 0, none⟩), .slice a1 m1 c1] rfl Go.Proofs.Tryz.func26 rfl rfl rfl fun g hg R hR => ?_
  unfold bagB
  refine S.region rfl ?_
  refine O.op (.p rfl) (.mv rfl) ?_
  refine O.op (.p rfl) (.mv rfl) ?_
  refine O.op (.p rfl) (.nilCheck rfl) ?_
  refine O.op (.p rfl) (.fieldObj FactKit6.fld71x5 rfl) ?_
  refine O.op (.p rfl) (.loadObj FactKit6.flat34 rfl (by repeat (first | exact Sel.here | apply Sel.there)) rfl) ?_
  refine O.op (.p rfl) (.mv rfl) ?_
  refine O.opE (.p rfl) (.litP (T := Rp.val) (ys := [_]) Go.Proofs.Tryz.underlying34 FactKit6.elem23 (by decide) rfl rfl ⟨⟨rfl, rfl⟩, trivial⟩ (by decide)) ?_
  rintro _ _ ⟨a10, c10, rfl, rfl⟩
  refine O.opE (.p rfl) (.appendO (T := Rp.val) Go.Proofs.Tryz.underlying34 FactKit6.elem23 (by decide) rfl rfl (by repeat (first | exact Sel.here | apply Sel.there)) (by repeat (first | exact Sel.here | apply Sel.there)) (by first | omega | (simp; done) | (simp; omega) | decide) (by first | omega | (simp; done) | (simp; omega) | decide)) ?_
  rintro _ _ ⟨a11, c11, rfl, rfl⟩
  refine O.op (.p rfl) (.nilCheck rfl) ?_
  refine O.op (.p rfl) (.fieldObj FactKit6.fld71x5 rfl) ?_
  refine O.opU rfl (.store1 FactKit6.flat34 rfl rfl (by first | rfl | assumption) (by repeat (first | exact Sel.here | apply Sel.there)) (by first | (simp; done) | (simp [Value.cells]; done))) ?_
  refine O.nil ?_
  refine S.end0 Go.Proofs.Tryz.results26 fun w hw => Holds.end_ hR hw ?_
  exact ⟨_, ⟨a11, c11, rfl, rfl⟩, by repeat (first | exact Picks.all | exact Picks.nil | (apply Picks.cons; focus (repeat (first | exact Sel.here | apply Sel.there))) | apply Picks.skip)⟩
theorem apartB_c {r : Fr} {b : Nat} {u : Value} {vs : List Value} {xss : List (List UInt8)} (hls : Arr Rp.val r u vs) (hq : ∀ x ∈ xss, x.length ≤ 100000000) (hb : xss.length ≤ 100000000) :
    Con Go.Proofs.Tryz.prog 27 #[.pointer (some ⟨b, 0, none⟩)] r [obj b 71 (bagB u), RowsP Rp.u8 5 vs xss] (Ret fun v η => v = .bool true ∧ η = []) := by
  refine Con.of (n := 169) [.pointer (some ⟨b, 0, none⟩)] rfl Go.Proofs.Tryz.func27 rfl rfl rfl fun g hg R hR => ?_
  have hls := hls.mono hg
  unfold bagB
  refine S.seq (S.region rfl ?_)
  refine O.op (.p rfl) (.as rfl) ?_
  refine O.nil ?_
  refine S.seq (S.region rfl ?_)
  refine O.op (.p rfl) (.mv rfl) ?_
  refine O.op (.p rfl) (.nilCheck rfl) ?_
  refine O.op (.p rfl) (.fieldObj FactKit6.fld71x0 rfl) ?_
  refine O.op (.p rfl) (.loadObj FactKit6.flat48 rfl (by repeat (first | exact Sel.here | apply Sel.there)) rfl) ?_
  refine O.call0 (.p rfl) rfl FactKit6.ok33 rfl rfl (flatLimbs_0) ?_
  rintro v7 _ ⟨rfl, rfl⟩
  try simp only [List.cons_append, List.nil_append, List.append_nil]
  refine O.slot 7 (v' := .bool true) rfl (congrArg Value.bool (by first | decide | simp)) ?_
  refine O.op (.p rfl) (.mv rfl) ?_
  refine O.op (.g rfl rfl) (.mv rfl) ?_
  refine O.op (.g rfl rfl) (.nilCheck rfl) ?_
  refine O.op (.g rfl rfl) (.fieldObj FactKit6.fld71x1 rfl) ?_
  refine O.op (.g rfl rfl) (.loadObj FactKit6.flat49 rfl (by repeat (first | exact Sel.here | apply Sel.there)) rfl) ?_
  refine O.call0 (.g rfl rfl) rfl FactKit6.ok34 rfl rfl (flatWords_0) ?_
  rintro v13 _ ⟨rfl, rfl⟩
  try simp only [List.cons_append, List.nil_append, List.append_nil]
  refine O.slot 13 (v' := .bool true) rfl (congrArg Value.bool (by first | decide | simp)) ?_
  refine O.op (.p rfl) (.pickT rfl rfl) ?_
  refine O.op (.p rfl) (.mv rfl) ?_
  refine O.op (.g rfl rfl) (.mv rfl) ?_
  refine O.op (.g rfl rfl) (.nilCheck rfl) ?_
  refine O.op (.g rfl rfl) (.fieldObj FactKit6.fld71x2 rfl) ?_
  refine O.op (.g rfl rfl) (.loadObj FactKit6.flat50 rfl (by repeat (first | exact Sel.here | apply Sel.there)) rfl) ?_
  refine O.call0 (.g rfl rfl) rfl FactKit6.ok35 rfl rfl (flatInts_0) ?_
  rintro v20 _ ⟨rfl, rfl⟩
  try simp only [List.cons_append, List.nil_append, List.append_nil]
  refine O.slot 20 (v' := .bool true) rfl (congrArg Value.bool (by first | decide | simp)) ?_
  refine O.op (.p rfl) (.pickT rfl rfl) ?_
  refine O.op (.p rfl) (.mv rfl) ?_
  refine O.op (.g rfl rfl) (.mv rfl) ?_
  refine O.op (.g rfl rfl) (.nilCheck rfl) ?_
  refine O.op (.g rfl rfl) (.fieldObj FactKit6.fld71x3 rfl) ?_
  refine O.op (.g rfl rfl) (.loadObj FactKit6.flat51 rfl (by repeat (first | exact Sel.here | apply Sel.there)) rfl) ?_
  refine O.call0 (.g rfl rfl) rfl FactKit6.ok36 rfl rfl (flatLongs_0) ?_
  rintro v27 _ ⟨rfl, rfl⟩
  try simp only [List.cons_append, List.nil_append, List.append_nil]
  refine O.slot 27 (v' := .bool true) rfl (congrArg Value.bool (by first | decide | simp)) ?_
  refine O.op (.p rfl) (.pickT rfl rfl) ?_
  refine O.op (.p rfl) (.mv rfl) ?_
  refine O.op (.g rfl rfl) (.mv rfl) ?_
  refine O.op (.g rfl rfl) (.nilCheck rfl) ?_
  refine O.op (.g rfl rfl) (.fieldObj FactKit6.fld71x4 rfl) ?_
  refine O.op (.g rfl rfl) (.loadObj FactKit6.flat52 rfl (by repeat (first | exact Sel.here | apply Sel.there)) rfl) ?_
  refine O.call0 (.g rfl rfl) rfl FactKit6.ok37 rfl rfl (flatTexts_0) ?_
  rintro v34 _ ⟨rfl, rfl⟩
  try simp only [List.cons_append, List.nil_append, List.append_nil]
  refine O.slot 34 (v' := .bool true) rfl (congrArg Value.bool (by first | decide | simp)) ?_
  refine O.op (.p rfl) (.pickT rfl rfl) ?_
  refine O.op (.p rfl) (.mv rfl) ?_
  refine O.op (.g rfl rfl) (.mv rfl) ?_
  refine O.op (.g rfl rfl) (.nilCheck rfl) ?_
  refine O.op (.g rfl rfl) (.fieldObj FactKit6.fld71x5 rfl) ?_
  refine O.op (.g rfl rfl) (.loadObj FactKit6.flat34 rfl (by repeat (first | exact Sel.here | apply Sel.there)) rfl) ?_
  refine O.callS (.g rfl rfl) rfl FactKit6.ok38 rfl rfl (by repeat (first | exact Sel.here | apply Sel.there)) (flatBytes_c hls hq hb) ?_
  rintro v41 _ ⟨rfl, rfl⟩
  try simp only [List.cons_append, List.nil_append, List.append_nil]
  refine O.slot 41 (v' := .bool true) rfl (congrArg Value.bool (by first | decide | simp)) ?_
  refine O.op (.p rfl) (.pickT rfl rfl) ?_
  refine O.op (.p rfl) (.mv rfl) ?_
  refine O.op (.g rfl rfl) (.mv rfl) ?_
  refine O.op (.g rfl rfl) (.nilCheck rfl) ?_
  refine O.op (.g rfl rfl) (.fieldObj FactKit6.fld71x6 rfl) ?_
  refine O.op (.g rfl rfl) (.loadObj FactKit6.flat53 rfl (by repeat (first | exact Sel.here | apply Sel.there)) rfl) ?_
  refine O.call0 (.g rfl rfl) rfl FactKit6.ok39 rfl rfl (flatTruths_0) ?_
  rintro v48 _ ⟨rfl, rfl⟩
  try simp only [List.cons_append, List.nil_append, List.append_nil]
  refine O.slot 48 (v' := .bool true) rfl (congrArg Value.bool (by first | decide | simp)) ?_
  refine O.op (.p rfl) (.pickT rfl rfl) ?_
  refine O.op (.p rfl) (.mv rfl) ?_
  refine O.op (.g rfl rfl) (.mv rfl) ?_
  refine O.op (.g rfl rfl) (.nilCheck rfl) ?_
  refine O.op (.g rfl rfl) (.fieldObj FactKit6.fld71x7 rfl) ?_
  refine O.op (.g rfl rfl) (.loadObj FactKit6.flat54 rfl (by repeat (first | exact Sel.here | apply Sel.there)) rfl) ?_
  refine O.call0 (.g rfl rfl) rfl FactKit6.ok40 rfl rfl (flatRows_0) ?_
  rintro v55 _ ⟨rfl, rfl⟩
  try simp only [List.cons_append, List.nil_append, List.append_nil]
  refine O.slot 55 (v' := .bool true) rfl (congrArg Value.bool (by first | decide | simp)) ?_
  refine O.op (.p rfl) (.pickT rfl rfl) ?_
  refine O.op (.p rfl) (.mv rfl) ?_
  refine O.op (.g rfl rfl) (.mv rfl) ?_
  refine O.op (.g rfl rfl) (.nilCheck rfl) ?_
  refine O.op (.g rfl rfl) (.fieldObj FactKit6.fld71x8 rfl) ?_
  refine O.op (.g rfl rfl) (.loadObj FactKit6.flat55 rfl (by repeat (first | exact Sel.here | apply Sel.there)) rfl) ?_
  refine O.call0 (.g rfl rfl) rfl FactKit6.ok41 rfl rfl (flatDots_0) ?_
  rintro v62 _ ⟨rfl, rfl⟩
  try simp only [List.cons_append, List.nil_append, List.append_nil]
  refine O.slot 62 (v' := .bool true) rfl (congrArg Value.bool (by first | decide | simp)) ?_
  refine O.op (.p rfl) (.pickT rfl rfl) ?_
  refine O.op (.p rfl) (.mv rfl) ?_
  refine O.op (.g rfl rfl) (.mv rfl) ?_
  refine O.op (.g rfl rfl) (.nilCheck rfl) ?_
  refine O.op (.g rfl rfl) (.fieldObj FactKit6.fld71x9 rfl) ?_
  refine O.op (.g rfl rfl) (.loadObj FactKit6.flat56 rfl (by repeat (first | exact Sel.here | apply Sel.there)) rfl) ?_
  refine O.call0 (.g rfl rfl) rfl FactKit6.ok42 rfl rfl (flatRecords_0) ?_
  rintro v69 _ ⟨rfl, rfl⟩
  try simp only [List.cons_append, List.nil_append, List.append_nil]
  refine O.slot 69 (v' := .bool true) rfl (congrArg Value.bool (by first | decide | simp)) ?_
  refine O.op (.p rfl) (.pickT rfl rfl) ?_
  refine O.op (.p rfl) (.mv rfl) ?_
  refine O.op (.g rfl rfl) (.mv rfl) ?_
  refine O.op (.g rfl rfl) (.nilCheck rfl) ?_
  refine O.op (.g rfl rfl) (.fieldObj FactKit6.fld71x10 rfl) ?_
  refine O.op (.g rfl rfl) (.loadObj FactKit6.flat57 rfl (by repeat (first | exact Sel.here | apply Sel.there)) rfl) ?_
  refine O.call0 (.g rfl rfl) rfl FactKit6.ok43 rfl rfl (flatLeaves_0) ?_
  rintro v76 _ ⟨rfl, rfl⟩
  try simp only [List.cons_append, List.nil_append, List.append_nil]
  refine O.slot 76 (v' := .bool true) rfl (congrArg Value.bool (by first | decide | simp)) ?_
  refine O.op (.p rfl) (.pickT rfl rfl) ?_
  refine O.op (.p rfl) (.mv rfl) ?_
  refine O.op (.g rfl rfl) (.mv rfl) ?_
  refine O.op (.g rfl rfl) (.nilCheck rfl) ?_
  refine O.op (.g rfl rfl) (.fieldObj FactKit6.fld71x11 rfl) ?_
  refine O.op (.g rfl rfl) (.loadObj FactKit6.flat58 rfl (by repeat (first | exact Sel.here | apply Sel.there)) rfl) ?_
  refine O.call0 (.g rfl rfl) rfl FactKit6.ok44 rfl rfl (flatGrants_0) ?_
  rintro v83 _ ⟨rfl, rfl⟩
  try simp only [List.cons_append, List.nil_append, List.append_nil]
  refine O.slot 83 (v' := .bool true) rfl (congrArg Value.bool (by first | decide | simp)) ?_
  refine O.op (.p rfl) (.pickT rfl rfl) ?_
  refine O.op (.p rfl) (.mv rfl) ?_
  refine O.op (.g rfl rfl) (.mv rfl) ?_
  refine O.op (.g rfl rfl) (.nilCheck rfl) ?_
  refine O.op (.g rfl rfl) (.fieldObj FactKit6.fld71x12 rfl) ?_
  refine O.op (.g rfl rfl) (.loadObj FactKit6.flat59 rfl (by repeat (first | exact Sel.here | apply Sel.there)) rfl) ?_
  refine O.call0 (.g rfl rfl) rfl FactKit6.ok45 rfl rfl (flatNodes_0) ?_
  rintro v90 _ ⟨rfl, rfl⟩
  try simp only [List.cons_append, List.nil_append, List.append_nil]
  refine O.slot 90 (v' := .bool true) rfl (congrArg Value.bool (by first | decide | simp)) ?_
  refine O.op (.p rfl) (.pickT rfl rfl) ?_
  refine O.op (.p rfl) (.mv rfl) ?_
  refine O.op (.g rfl rfl) (.mv rfl) ?_
  refine O.op (.g rfl rfl) (.nilCheck rfl) ?_
  refine O.op (.g rfl rfl) (.fieldObj FactKit6.fld71x13 rfl) ?_
  refine O.op (.g rfl rfl) (.loadObj FactKit6.flat60 rfl (by repeat (first | exact Sel.here | apply Sel.there)) rfl) ?_
  refine O.call0 (.g rfl rfl) rfl FactKit6.ok46 rfl rfl (flatStubs_0) ?_
  rintro v97 _ ⟨rfl, rfl⟩
  try simp only [List.cons_append, List.nil_append, List.append_nil]
  refine O.slot 97 (v' := .bool true) rfl (congrArg Value.bool (by first | decide | simp)) ?_
  refine O.op (.p rfl) (.pickT rfl rfl) ?_
  refine O.op (.p rfl) (.mv rfl) ?_
  refine O.op (.g rfl rfl) (.mv rfl) ?_
  refine O.op (.g rfl rfl) (.nilCheck rfl) ?_
  refine O.op (.g rfl rfl) (.fieldObj FactKit6.fld71x14 rfl) ?_
  refine O.op (.g rfl rfl) (.loadObj FactKit6.flat61 rfl (by repeat (first | exact Sel.here | apply Sel.there)) rfl) ?_
  refine O.call0 (.g rfl rfl) rfl FactKit6.ok47 rfl rfl (flatProofs_0) ?_
  rintro v104 _ ⟨rfl, rfl⟩
  try simp only [List.cons_append, List.nil_append, List.append_nil]
  refine O.slot 104 (v' := .bool true) rfl (congrArg Value.bool (by first | decide | simp)) ?_
  refine O.op (.p rfl) (.pickT rfl rfl) ?_
  refine O.op (.p rfl) (.mv rfl) ?_
  refine O.op (.g rfl rfl) (.mv rfl) ?_
  refine O.op (.g rfl rfl) (.nilCheck rfl) ?_
  refine O.op (.g rfl rfl) (.fieldObj FactKit6.fld71x15 rfl) ?_
  refine O.op (.g rfl rfl) (.loadObj FactKit6.flat62 rfl (by repeat (first | exact Sel.here | apply Sel.there)) rfl) ?_
  refine O.call0 (.g rfl rfl) rfl FactKit6.ok48 rfl rfl (flatRoots_0) ?_
  rintro v111 _ ⟨rfl, rfl⟩
  try simp only [List.cons_append, List.nil_append, List.append_nil]
  refine O.slot 111 (v' := .bool true) rfl (congrArg Value.bool (by first | decide | simp)) ?_
  refine O.op (.p rfl) (.pickT rfl rfl) ?_
  refine O.op (.p rfl) (.mv rfl) ?_
  refine O.op (.g rfl rfl) (.mv rfl) ?_
  refine O.op (.g rfl rfl) (.nilCheck rfl) ?_
  refine O.op (.g rfl rfl) (.fieldObj FactKit6.fld71x16 rfl) ?_
  refine O.op (.g rfl rfl) (.loadObj FactKit6.flat63 rfl (by repeat (first | exact Sel.here | apply Sel.there)) rfl) ?_
  refine O.call0 (.g rfl rfl) rfl FactKit6.ok49 rfl rfl (flatEvidenceRow_0) ?_
  rintro v118 _ ⟨rfl, rfl⟩
  try simp only [List.cons_append, List.nil_append, List.append_nil]
  refine O.slot 118 (v' := .bool true) rfl (congrArg Value.bool (by first | decide | simp)) ?_
  refine O.op (.p rfl) (.pickT rfl rfl) ?_
  refine O.op (.p rfl) (.mv rfl) ?_
  refine O.op (.g rfl rfl) (.mv rfl) ?_
  refine O.op (.g rfl rfl) (.nilCheck rfl) ?_
  refine O.op (.g rfl rfl) (.fieldObj FactKit6.fld71x17 rfl) ?_
  refine O.op (.g rfl rfl) (.loadObj FactKit6.flat64 rfl (by repeat (first | exact Sel.here | apply Sel.there)) rfl) ?_
  refine O.call0 (.g rfl rfl) rfl FactKit6.ok50 rfl rfl (flatFrames_0) ?_
  rintro v125 _ ⟨rfl, rfl⟩
  try simp only [List.cons_append, List.nil_append, List.append_nil]
  refine O.slot 125 (v' := .bool true) rfl (congrArg Value.bool (by first | decide | simp)) ?_
  refine O.op (.p rfl) (.pickT rfl rfl) ?_
  refine O.op (.p rfl) (.mv rfl) ?_
  refine O.op (.g rfl rfl) (.mv rfl) ?_
  refine O.op (.g rfl rfl) (.nilCheck rfl) ?_
  refine O.op (.g rfl rfl) (.fieldObj FactKit6.fld71x18 rfl) ?_
  refine O.op (.g rfl rfl) (.loadObj FactKit6.flat65 rfl (by repeat (first | exact Sel.here | apply Sel.there)) rfl) ?_
  refine O.call0 (.g rfl rfl) rfl FactKit6.ok51 rfl rfl (flatPackets_0) ?_
  rintro v132 _ ⟨rfl, rfl⟩
  try simp only [List.cons_append, List.nil_append, List.append_nil]
  refine O.slot 132 (v' := .bool true) rfl (congrArg Value.bool (by first | decide | simp)) ?_
  refine O.op (.p rfl) (.pickT rfl rfl) ?_
  refine O.op (.p rfl) (.mv rfl) ?_
  refine O.op (.g rfl rfl) (.mv rfl) ?_
  refine O.op (.g rfl rfl) (.nilCheck rfl) ?_
  refine O.op (.g rfl rfl) (.fieldObj FactKit6.fld71x19 rfl) ?_
  refine O.op (.g rfl rfl) (.loadObj FactKit6.flat42 rfl (by repeat (first | exact Sel.here | apply Sel.there)) rfl) ?_
  refine O.call0 (.g rfl rfl) rfl FactKit6.ok52 rfl rfl (flatEntries_0) ?_
  rintro v139 _ ⟨rfl, rfl⟩
  try simp only [List.cons_append, List.nil_append, List.append_nil]
  refine O.slot 139 (v' := .bool true) rfl (congrArg Value.bool (by first | decide | simp)) ?_
  refine O.op (.p rfl) (.pickT rfl rfl) ?_
  refine O.op (.p rfl) (.mv rfl) ?_
  refine O.op (.g rfl rfl) (.mv rfl) ?_
  refine O.op (.g rfl rfl) (.nilCheck rfl) ?_
  refine O.op (.g rfl rfl) (.fieldObj FactKit6.fld71x20 rfl) ?_
  refine O.op (.g rfl rfl) (.loadObj FactKit6.flat66 rfl (by repeat (first | exact Sel.here | apply Sel.there)) rfl) ?_
  refine O.call0 (.g rfl rfl) rfl FactKit6.ok53 rfl rfl (flatHeldRow_0) ?_
  rintro v146 _ ⟨rfl, rfl⟩
  try simp only [List.cons_append, List.nil_append, List.append_nil]
  refine O.slot 146 (v' := .bool true) rfl (congrArg Value.bool (by first | decide | simp)) ?_
  refine O.op (.p rfl) (.pickT rfl rfl) ?_
  refine O.op (.p rfl) (.mv rfl) ?_
  refine O.op (.g rfl rfl) (.mv rfl) ?_
  refine O.op (.g rfl rfl) (.nilCheck rfl) ?_
  refine O.op (.g rfl rfl) (.fieldObj FactKit6.fld71x21 rfl) ?_
  refine O.op (.g rfl rfl) (.loadObj FactKit6.flat67 rfl (by repeat (first | exact Sel.here | apply Sel.there)) rfl) ?_
  refine O.call0 (.g rfl rfl) rfl FactKit6.ok54 rfl rfl (flatConfigs_0) ?_
  rintro v153 _ ⟨rfl, rfl⟩
  try simp only [List.cons_append, List.nil_append, List.append_nil]
  refine O.slot 153 (v' := .bool true) rfl (congrArg Value.bool (by first | decide | simp)) ?_
  refine O.op (.p rfl) (.pickT rfl rfl) ?_
  refine O.op (.p rfl) (.mv rfl) ?_
  refine O.op (.g rfl rfl) (.mv rfl) ?_
  refine O.op (.g rfl rfl) (.nilCheck rfl) ?_
  refine O.op (.g rfl rfl) (.fieldObj FactKit6.fld71x22 rfl) ?_
  refine O.op (.g rfl rfl) (.loadObj FactKit6.flat68 rfl (by repeat (first | exact Sel.here | apply Sel.there)) rfl) ?_
  refine O.call0 (.g rfl rfl) rfl FactKit6.ok55 rfl rfl (flatSteps_0) ?_
  rintro v160 _ ⟨rfl, rfl⟩
  try simp only [List.cons_append, List.nil_append, List.append_nil]
  refine O.slot 160 (v' := .bool true) rfl (congrArg Value.bool (by first | decide | simp)) ?_
  refine O.op (.p rfl) (.pickT rfl rfl) ?_
  refine O.op (.p rfl) (.mv rfl) ?_
  refine O.op (.g rfl rfl) (.mv rfl) ?_
  refine O.op (.g rfl rfl) (.nilCheck rfl) ?_
  refine O.op (.g rfl rfl) (.fieldObj FactKit6.fld71x23 rfl) ?_
  refine O.op (.g rfl rfl) (.loadObj FactKit6.flat69 rfl (by repeat (first | exact Sel.here | apply Sel.there)) rfl) ?_
  refine O.call0 (.g rfl rfl) rfl FactKit6.ok56 rfl rfl (flatTales_0) ?_
  rintro v167 _ ⟨rfl, rfl⟩
  try simp only [List.cons_append, List.nil_append, List.append_nil]
  refine O.slot 167 (v' := .bool true) rfl (congrArg Value.bool (by first | decide | simp)) ?_
  refine O.op (.p rfl) (.pickT rfl rfl) ?_
  refine O.op (.p rfl) (.as rfl) ?_
  refine O.nil ?_
  refine S.ret Go.Proofs.Tryz.results27 rfl fun w hw => Holds.end_ hR hw ?_
  exact ⟨_, ⟨rfl, rfl⟩, by repeat (first | exact Picks.all | exact Picks.nil | (apply Picks.cons; focus (repeat (first | exact Sel.here | apply Sel.there))) | apply Picks.skip)⟩
theorem ApartBytes_c {r : Fr} {va : Value} {vs : List Value} {xss : List (List UInt8)} (hls : Arr Rp.val r va vs) (hq : ∀ x ∈ xss, x.length ≤ 100000000) (hb : xss.length ≤ 100000000) :
    Con Go.Proofs.Tryz.prog 11 #[va] r [RowsP Rp.u8 5 vs xss] (Ret fun v η => v = .bool true ∧ η = []) := by
  refine Con.of (n := 21) [va] rfl Go.Proofs.Tryz.func11 rfl rfl rfl fun g hg R hR => ?_
  have hls := hls.mono hg
  obtain ⟨a1, c1, rfl⟩ := hls.shape
  refine S.factS Sel.here (fun _ x => EachP.len x) fun hlen => ?_
  refine S.factS Sel.here (fun _ x => EachP.all2 (R := fun v x => ∃ a c, v = .slice a x.length c) (fun _ _ _ y _ => OwnP.shape y) x (Fr.sub_refl _)) fun hsh => ?_
  refine S.seq (S.region rfl ?_)
  refine O.op (.p rfl) (.as rfl) ?_
  refine O.nil ?_
  refine S.seq (S.region rfl ?_)
  refine O.op (.p rfl) (.build (cs := [_, _, _, _, _, _, _, _, _, _, _, _, _, _, _, _, _, _, _, _, _, _, _, _]) Go.Proofs.Tryz.underlying71 rfl rfl rfl rfl rfl) ?_
  refine O.opE (.p rfl) (.box (cs := [_, _, _, _, _, _, _, _, _, _, _, _, _, _, _, _, _, _, _, _, _, _, _, _]) rfl rfl) ?_
  rintro _ _ ⟨b6, rfl, rfl⟩
  refine O.op (.p rfl) (.as rfl) ?_
  refine O.nil ?_
  refine S.seq (S.seq (S.region rfl ?_))
  refine O.op (.p rfl) (.as rfl) ?_
  refine O.nil ?_
  refine S.block ?_
  refine S.addNil (T := Rp.val) (e := 23) ?_
  refine S.loopK3 (ι := Nat) (κ := Option Addr) (υ := Nat) (fun k a c => k ≤ vs.length) (fun k a c => [(4, .int .i64 (k : Int))]) [(0, _), (3, _)] (fun k a c => [OwnP Rp.val 23 (.slice a (vs.take k).length c) (vs.take k), obj b6 71 (bagB (.slice a (vs.take k).length c)), RowsP Rp.u8 5 vs xss]) (fun k a c => vs.length - k) (0) (none) (0) (by simp) (.cons rfl (.nil)) (.cons rfl (.cons rfl (.nil))) rfl fun k a c hx ih => ?_
  have hm1 := meltRefl (g := g)
  refine S.seq (S.seq (S.region rfl ?_))
  refine O.op (.p rfl) (.mv rfl) ?_
  refine O.op (.p rfl) (.mv rfl) ?_
  refine O.op (.p rfl) (.len rfl Go.Proofs.Tryz.underlying34 rfl) ?_
  refine O.op (.p rfl) (.lss rfl rfl) ?_
  refine O.nil ?_
  first | refine S.condD rfl (fun h10 => ?_) (fun h10 => ?_) | refine S.condB rfl (fun h10 => ?_) (fun h10 => ?_)
  · have hk : k < vs.length := by omega
    obtain ⟨ak, ck, hvk⟩ := hsh.get k hk (by omega)
    have hl : (vs.take k).length = k := by simp; omega
    refine S.skip (S.seq (S.block (S.region rfl ?_)))
    refine O.op (.p rfl) (.mv rfl) ?_
    refine O.op (.p rfl) (.mv rfl) ?_
    refine O.op (.p rfl) (.mv rfl) ?_
    refine O.idx' (.p rfl) Go.Proofs.Tryz.underlying34 FactKit6.size23 rfl rfl rfl (hls) (by decide) (by first | omega | (simp; done) | (simp; omega) | decide) (fun p16 cs16 hp16 hr16 => ?_)
    obtain ⟨rfl, _⟩ := hr16
    refine O.op (.p rfl) (.loadAt FactKit6.flat23 rfl hp16 rfl) ?_
    refine O.slot 17 (v' := .slice ak xss[k].length ck) rfl (by exact hvk) ?_
    refine O.callSs (.p rfl) rfl FactKit6.ok26 rfl rfl (by repeat (first | exact Sels.nil | (apply Sels.cons; focus (repeat (first | exact Sel.here | apply Sel.there))))) (putBytes_c (by omega)) ?_
    rintro v18 _ ⟨a18, c18, rfl, rfl⟩
    try simp only [List.cons_append, List.nil_append, List.append_nil]
    refine O.nil ?_
    refine S.inBlock (S.region rfl ?_)
    refine O.op (.p rfl) (.mv rfl) ?_
    refine O.op (.p rfl) (.add rfl rfl (IntWalk.i64_in _ (by omega))) ?_
    refine O.op (.p rfl) (.as rfl) ?_
    refine O.nil ?_
    rw [← hvk, ← List.take_succ_eq_append_getElem hk]
    have hl2 : (vs.take k).length + 1 = (vs.take (k + 1)).length := by simp; omega
    rw [hl2]
    refine S.pk ?_ (S.weaken ?_ (ih (k + 1) (a18) (c18) (by omega) (by omega)))
    · repeat (first | exact Picks.all | exact Picks.nil | (apply Picks.cons; focus (repeat (first | exact Sel.here | apply Sel.there))) | apply Picks.skip)
    repeat (first | exact Sub.nil | refine Sub.cons rfl ?_)
  · have hk : k = vs.length := by omega
    subst hk
    rw [List.take_length]
    refine S.frzA (by repeat (first | exact Sel.here | apply Sel.there)) fun g hs hm hbag => ?_
    replace hg := Fr.sub_trans hg hs
    replace hR := melted hR hm
    try replace hls := hls.mono hs
    replace hm1 := meltTrans hm1 hm
    clear hs hm
    refine S.exit rfl ?_
    refine S.seq (S.region rfl ?_)
    refine O.op (.p rfl) (.mv rfl) ?_
    refine O.callSs (.p rfl) rfl FactKit6.ok27 rfl rfl (by repeat (first | exact Sels.nil | (apply Sels.cons; focus (repeat (first | exact Sel.here | apply Sel.there))))) (apartB_c hbag hq hb) ?_
    rintro v20 _ ⟨rfl, rfl⟩
    try simp only [List.cons_append, List.nil_append, List.append_nil]
    refine O.op (.p rfl) (.as rfl) ?_
    refine O.nil ?_
    refine S.ret Go.Proofs.Tryz.results11 rfl fun w hw => Holds.end_ hR hw ?_
    exact ⟨_, ⟨rfl, rfl⟩, by repeat (first | exact Picks.all | exact Picks.nil | (apply Picks.cons; focus (repeat (first | exact Sel.here | apply Sel.there))) | apply Picks.skip)⟩

end Go.Proofs.YtcghiboamlaenaaGreat
