import Derived.Test.YtcghiboamlaenaaGreatKit10
import Derived.Test.YtcghiboamlaenaaGreatJourn8
open Go Go.Sp
set_option maxRecDepth 100000
attribute [local irreducible] obj Own OwnP
namespace Go.Proofs.YtcghiboamlaenaaGreat
theorem FactKit11.flat34 : Go.Sp.flat1 Go.Proofs.Tryz.prog 34 = true := by kernel_rfl
theorem FactKit11.flat37 : Go.Sp.flat1 Go.Proofs.Tryz.prog 37 = true := by kernel_rfl
theorem FactKit11.flat42 : Go.Sp.flat1 Go.Proofs.Tryz.prog 42 = true := by kernel_rfl
theorem FactKit11.flat48 : Go.Sp.flat1 Go.Proofs.Tryz.prog 48 = true := by kernel_rfl
theorem FactKit11.flat49 : Go.Sp.flat1 Go.Proofs.Tryz.prog 49 = true := by kernel_rfl
theorem FactKit11.flat50 : Go.Sp.flat1 Go.Proofs.Tryz.prog 50 = true := by kernel_rfl
theorem FactKit11.flat51 : Go.Sp.flat1 Go.Proofs.Tryz.prog 51 = true := by kernel_rfl
theorem FactKit11.flat52 : Go.Sp.flat1 Go.Proofs.Tryz.prog 52 = true := by kernel_rfl
theorem FactKit11.flat53 : Go.Sp.flat1 Go.Proofs.Tryz.prog 53 = true := by kernel_rfl
theorem FactKit11.flat54 : Go.Sp.flat1 Go.Proofs.Tryz.prog 54 = true := by kernel_rfl
theorem FactKit11.flat55 : Go.Sp.flat1 Go.Proofs.Tryz.prog 55 = true := by kernel_rfl
theorem FactKit11.flat56 : Go.Sp.flat1 Go.Proofs.Tryz.prog 56 = true := by kernel_rfl
theorem FactKit11.flat57 : Go.Sp.flat1 Go.Proofs.Tryz.prog 57 = true := by kernel_rfl
theorem FactKit11.flat58 : Go.Sp.flat1 Go.Proofs.Tryz.prog 58 = true := by kernel_rfl
theorem FactKit11.flat59 : Go.Sp.flat1 Go.Proofs.Tryz.prog 59 = true := by kernel_rfl
theorem FactKit11.flat60 : Go.Sp.flat1 Go.Proofs.Tryz.prog 60 = true := by kernel_rfl
theorem FactKit11.flat61 : Go.Sp.flat1 Go.Proofs.Tryz.prog 61 = true := by kernel_rfl
theorem FactKit11.flat62 : Go.Sp.flat1 Go.Proofs.Tryz.prog 62 = true := by kernel_rfl
theorem FactKit11.flat63 : Go.Sp.flat1 Go.Proofs.Tryz.prog 63 = true := by kernel_rfl
theorem FactKit11.flat64 : Go.Sp.flat1 Go.Proofs.Tryz.prog 64 = true := by kernel_rfl
theorem FactKit11.flat65 : Go.Sp.flat1 Go.Proofs.Tryz.prog 65 = true := by kernel_rfl
theorem FactKit11.flat66 : Go.Sp.flat1 Go.Proofs.Tryz.prog 66 = true := by kernel_rfl
theorem FactKit11.flat67 : Go.Sp.flat1 Go.Proofs.Tryz.prog 67 = true := by kernel_rfl
theorem FactKit11.flat68 : Go.Sp.flat1 Go.Proofs.Tryz.prog 68 = true := by kernel_rfl
theorem FactKit11.flat69 : Go.Sp.flat1 Go.Proofs.Tryz.prog 69 = true := by kernel_rfl
theorem FactKit11.fld71x0 : fieldOff Go.Proofs.Tryz.prog 71 0 = some 0 := by kernel_rfl
theorem FactKit11.fld71x1 : fieldOff Go.Proofs.Tryz.prog 71 1 = some 1 := by kernel_rfl
theorem FactKit11.fld71x10 : fieldOff Go.Proofs.Tryz.prog 71 10 = some 10 := by kernel_rfl
theorem FactKit11.fld71x11 : fieldOff Go.Proofs.Tryz.prog 71 11 = some 11 := by kernel_rfl
theorem FactKit11.fld71x12 : fieldOff Go.Proofs.Tryz.prog 71 12 = some 12 := by kernel_rfl
theorem FactKit11.fld71x13 : fieldOff Go.Proofs.Tryz.prog 71 13 = some 13 := by kernel_rfl
theorem FactKit11.fld71x14 : fieldOff Go.Proofs.Tryz.prog 71 14 = some 14 := by kernel_rfl
theorem FactKit11.fld71x15 : fieldOff Go.Proofs.Tryz.prog 71 15 = some 15 := by kernel_rfl
theorem FactKit11.fld71x16 : fieldOff Go.Proofs.Tryz.prog 71 16 = some 16 := by kernel_rfl
theorem FactKit11.fld71x17 : fieldOff Go.Proofs.Tryz.prog 71 17 = some 17 := by kernel_rfl
theorem FactKit11.fld71x18 : fieldOff Go.Proofs.Tryz.prog 71 18 = some 18 := by kernel_rfl
theorem FactKit11.fld71x19 : fieldOff Go.Proofs.Tryz.prog 71 19 = some 19 := by kernel_rfl
theorem FactKit11.fld71x2 : fieldOff Go.Proofs.Tryz.prog 71 2 = some 2 := by kernel_rfl
theorem FactKit11.fld71x20 : fieldOff Go.Proofs.Tryz.prog 71 20 = some 20 := by kernel_rfl
theorem FactKit11.fld71x21 : fieldOff Go.Proofs.Tryz.prog 71 21 = some 21 := by kernel_rfl
theorem FactKit11.fld71x22 : fieldOff Go.Proofs.Tryz.prog 71 22 = some 22 := by kernel_rfl
theorem FactKit11.fld71x23 : fieldOff Go.Proofs.Tryz.prog 71 23 = some 23 := by kernel_rfl
theorem FactKit11.fld71x3 : fieldOff Go.Proofs.Tryz.prog 71 3 = some 3 := by kernel_rfl
theorem FactKit11.fld71x4 : fieldOff Go.Proofs.Tryz.prog 71 4 = some 4 := by kernel_rfl
theorem FactKit11.fld71x5 : fieldOff Go.Proofs.Tryz.prog 71 5 = some 5 := by kernel_rfl
theorem FactKit11.fld71x6 : fieldOff Go.Proofs.Tryz.prog 71 6 = some 6 := by kernel_rfl
theorem FactKit11.fld71x7 : fieldOff Go.Proofs.Tryz.prog 71 7 = some 7 := by kernel_rfl
theorem FactKit11.fld71x8 : fieldOff Go.Proofs.Tryz.prog 71 8 = some 8 := by kernel_rfl
theorem FactKit11.fld71x9 : fieldOff Go.Proofs.Tryz.prog 71 9 = some 9 := by kernel_rfl
theorem FactKit11.ok27 : callable Go.Proofs.Tryz.prog 27 = true := by kernel_rfl
theorem FactKit11.ok31 : callable Go.Proofs.Tryz.prog 31 = true := by kernel_rfl
theorem FactKit11.ok33 : callable Go.Proofs.Tryz.prog 33 = true := by kernel_rfl
theorem FactKit11.ok34 : callable Go.Proofs.Tryz.prog 34 = true := by kernel_rfl
theorem FactKit11.ok35 : callable Go.Proofs.Tryz.prog 35 = true := by kernel_rfl
theorem FactKit11.ok36 : callable Go.Proofs.Tryz.prog 36 = true := by kernel_rfl
theorem FactKit11.ok37 : callable Go.Proofs.Tryz.prog 37 = true := by kernel_rfl
theorem FactKit11.ok38 : callable Go.Proofs.Tryz.prog 38 = true := by kernel_rfl
theorem FactKit11.ok39 : callable Go.Proofs.Tryz.prog 39 = true := by kernel_rfl
theorem FactKit11.ok40 : callable Go.Proofs.Tryz.prog 40 = true := by kernel_rfl
theorem FactKit11.ok41 : callable Go.Proofs.Tryz.prog 41 = true := by kernel_rfl
theorem FactKit11.ok42 : callable Go.Proofs.Tryz.prog 42 = true := by kernel_rfl
theorem FactKit11.ok43 : callable Go.Proofs.Tryz.prog 43 = true := by kernel_rfl
theorem FactKit11.ok44 : callable Go.Proofs.Tryz.prog 44 = true := by kernel_rfl
theorem FactKit11.ok45 : callable Go.Proofs.Tryz.prog 45 = true := by kernel_rfl
theorem FactKit11.ok46 : callable Go.Proofs.Tryz.prog 46 = true := by kernel_rfl
theorem FactKit11.ok47 : callable Go.Proofs.Tryz.prog 47 = true := by kernel_rfl
theorem FactKit11.ok48 : callable Go.Proofs.Tryz.prog 48 = true := by kernel_rfl
theorem FactKit11.ok49 : callable Go.Proofs.Tryz.prog 49 = true := by kernel_rfl
theorem FactKit11.ok50 : callable Go.Proofs.Tryz.prog 50 = true := by kernel_rfl
theorem FactKit11.ok51 : callable Go.Proofs.Tryz.prog 51 = true := by kernel_rfl
theorem FactKit11.ok52 : callable Go.Proofs.Tryz.prog 52 = true := by kernel_rfl
theorem FactKit11.ok53 : callable Go.Proofs.Tryz.prog 53 = true := by kernel_rfl
theorem FactKit11.ok54 : callable Go.Proofs.Tryz.prog 54 = true := by kernel_rfl
theorem FactKit11.ok55 : callable Go.Proofs.Tryz.prog 55 = true := by kernel_rfl
theorem FactKit11.ok56 : callable Go.Proofs.Tryz.prog 56 = true := by kernel_rfl
theorem FactKit11.size37 : (Go.Proofs.Tryz.prog.info? 37).map (·.size) = some 1 := by kernel_rfl

theorem apartE_c {r : Fr} {b : Nat} {u w : Value} {vs ws : List Value} {xss : List (List UInt8)} {csss : List (List (List Value))} (hls : Arr Rp.val r u vs) (hq : ∀ x ∈ xss, x.length ≤ 100000000) (hb : xss.length ≤ 100000000) (hle : Arr Rp.val r w ws) (hqe : ∀ x ∈ csss, x.length ≤ 100000000) (hbe : csss.length ≤ 100000000) :
    Con Go.Proofs.Tryz.prog 27 #[.pointer (some ⟨b, 0, none⟩)] r [obj b 71 (bagE u w), RowsP Rp.u8 5 vs xss, EachP (OwnP (Rp.cells 2) 25) ws csss] (Ret fun v η => v = .bool true ∧ η = []) := by
  refine Con.of (n := 169) [.pointer (some ⟨b, 0, none⟩)] rfl Go.Proofs.Tryz.func27 rfl rfl rfl fun g hg R hR => ?_
  have hls := hls.mono hg
  have hle := hle.mono hg
  unfold bagE
  refine S.seq (S.region rfl ?_)
  refine O.op (.p rfl) (.as rfl) ?_
  refine O.nil ?_
  refine S.seq (S.region rfl ?_)
  refine O.op (.p rfl) (.mv rfl) ?_
  refine O.op (.p rfl) (.nilCheck rfl) ?_
  refine O.op (.p rfl) (.fieldObj FactKit11.fld71x0 rfl) ?_
  refine O.op (.p rfl) (.loadObj FactKit11.flat48 rfl (by repeat (first | exact Sel.here | apply Sel.there)) rfl) ?_
  refine O.call0 (.p rfl) rfl FactKit11.ok33 rfl rfl (flatLimbs_0) ?_
  rintro v7 _ ⟨rfl, rfl⟩
  try simp only [List.cons_append, List.nil_append, List.append_nil]
  refine O.slot 7 (v' := .bool true) rfl (congrArg Value.bool (by first | decide | simp)) ?_
  refine O.op (.p rfl) (.mv rfl) ?_
  refine O.op (.g rfl rfl) (.mv rfl) ?_
  refine O.op (.g rfl rfl) (.nilCheck rfl) ?_
  refine O.op (.g rfl rfl) (.fieldObj FactKit11.fld71x1 rfl) ?_
  refine O.op (.g rfl rfl) (.loadObj FactKit11.flat49 rfl (by repeat (first | exact Sel.here | apply Sel.there)) rfl) ?_
  refine O.call0 (.g rfl rfl) rfl FactKit11.ok34 rfl rfl (flatWords_0) ?_
  rintro v13 _ ⟨rfl, rfl⟩
  try simp only [List.cons_append, List.nil_append, List.append_nil]
  refine O.slot 13 (v' := .bool true) rfl (congrArg Value.bool (by first | decide | simp)) ?_
  refine O.op (.p rfl) (.pickT rfl rfl) ?_
  refine O.op (.p rfl) (.mv rfl) ?_
  refine O.op (.g rfl rfl) (.mv rfl) ?_
  refine O.op (.g rfl rfl) (.nilCheck rfl) ?_
  refine O.op (.g rfl rfl) (.fieldObj FactKit11.fld71x2 rfl) ?_
  refine O.op (.g rfl rfl) (.loadObj FactKit11.flat50 rfl (by repeat (first | exact Sel.here | apply Sel.there)) rfl) ?_
  refine O.call0 (.g rfl rfl) rfl FactKit11.ok35 rfl rfl (flatInts_0) ?_
  rintro v20 _ ⟨rfl, rfl⟩
  try simp only [List.cons_append, List.nil_append, List.append_nil]
  refine O.slot 20 (v' := .bool true) rfl (congrArg Value.bool (by first | decide | simp)) ?_
  refine O.op (.p rfl) (.pickT rfl rfl) ?_
  refine O.op (.p rfl) (.mv rfl) ?_
  refine O.op (.g rfl rfl) (.mv rfl) ?_
  refine O.op (.g rfl rfl) (.nilCheck rfl) ?_
  refine O.op (.g rfl rfl) (.fieldObj FactKit11.fld71x3 rfl) ?_
  refine O.op (.g rfl rfl) (.loadObj FactKit11.flat51 rfl (by repeat (first | exact Sel.here | apply Sel.there)) rfl) ?_
  refine O.call0 (.g rfl rfl) rfl FactKit11.ok36 rfl rfl (flatLongs_0) ?_
  rintro v27 _ ⟨rfl, rfl⟩
  try simp only [List.cons_append, List.nil_append, List.append_nil]
  refine O.slot 27 (v' := .bool true) rfl (congrArg Value.bool (by first | decide | simp)) ?_
  refine O.op (.p rfl) (.pickT rfl rfl) ?_
  refine O.op (.p rfl) (.mv rfl) ?_
  refine O.op (.g rfl rfl) (.mv rfl) ?_
  refine O.op (.g rfl rfl) (.nilCheck rfl) ?_
  refine O.op (.g rfl rfl) (.fieldObj FactKit11.fld71x4 rfl) ?_
  refine O.op (.g rfl rfl) (.loadObj FactKit11.flat52 rfl (by repeat (first | exact Sel.here | apply Sel.there)) rfl) ?_
  refine O.call0 (.g rfl rfl) rfl FactKit11.ok37 rfl rfl (flatTexts_0) ?_
  rintro v34 _ ⟨rfl, rfl⟩
  try simp only [List.cons_append, List.nil_append, List.append_nil]
  refine O.slot 34 (v' := .bool true) rfl (congrArg Value.bool (by first | decide | simp)) ?_
  refine O.op (.p rfl) (.pickT rfl rfl) ?_
  refine O.op (.p rfl) (.mv rfl) ?_
  refine O.op (.g rfl rfl) (.mv rfl) ?_
  refine O.op (.g rfl rfl) (.nilCheck rfl) ?_
  refine O.op (.g rfl rfl) (.fieldObj FactKit11.fld71x5 rfl) ?_
  refine O.op (.g rfl rfl) (.loadObj FactKit11.flat34 rfl (by repeat (first | exact Sel.here | apply Sel.there)) rfl) ?_
  refine O.callS (.g rfl rfl) rfl FactKit11.ok38 rfl rfl (by repeat (first | exact Sel.here | apply Sel.there)) (flatBytes_c hls hq hb) ?_
  rintro v41 _ ⟨rfl, rfl⟩
  try simp only [List.cons_append, List.nil_append, List.append_nil]
  refine O.slot 41 (v' := .bool true) rfl (congrArg Value.bool (by first | decide | simp)) ?_
  refine O.op (.p rfl) (.pickT rfl rfl) ?_
  refine O.op (.p rfl) (.mv rfl) ?_
  refine O.op (.g rfl rfl) (.mv rfl) ?_
  refine O.op (.g rfl rfl) (.nilCheck rfl) ?_
  refine O.op (.g rfl rfl) (.fieldObj FactKit11.fld71x6 rfl) ?_
  refine O.op (.g rfl rfl) (.loadObj FactKit11.flat53 rfl (by repeat (first | exact Sel.here | apply Sel.there)) rfl) ?_
  refine O.call0 (.g rfl rfl) rfl FactKit11.ok39 rfl rfl (flatTruths_0) ?_
  rintro v48 _ ⟨rfl, rfl⟩
  try simp only [List.cons_append, List.nil_append, List.append_nil]
  refine O.slot 48 (v' := .bool true) rfl (congrArg Value.bool (by first | decide | simp)) ?_
  refine O.op (.p rfl) (.pickT rfl rfl) ?_
  refine O.op (.p rfl) (.mv rfl) ?_
  refine O.op (.g rfl rfl) (.mv rfl) ?_
  refine O.op (.g rfl rfl) (.nilCheck rfl) ?_
  refine O.op (.g rfl rfl) (.fieldObj FactKit11.fld71x7 rfl) ?_
  refine O.op (.g rfl rfl) (.loadObj FactKit11.flat54 rfl (by repeat (first | exact Sel.here | apply Sel.there)) rfl) ?_
  refine O.call0 (.g rfl rfl) rfl FactKit11.ok40 rfl rfl (flatRows_0) ?_
  rintro v55 _ ⟨rfl, rfl⟩
  try simp only [List.cons_append, List.nil_append, List.append_nil]
  refine O.slot 55 (v' := .bool true) rfl (congrArg Value.bool (by first | decide | simp)) ?_
  refine O.op (.p rfl) (.pickT rfl rfl) ?_
  refine O.op (.p rfl) (.mv rfl) ?_
  refine O.op (.g rfl rfl) (.mv rfl) ?_
  refine O.op (.g rfl rfl) (.nilCheck rfl) ?_
  refine O.op (.g rfl rfl) (.fieldObj FactKit11.fld71x8 rfl) ?_
  refine O.op (.g rfl rfl) (.loadObj FactKit11.flat55 rfl (by repeat (first | exact Sel.here | apply Sel.there)) rfl) ?_
  refine O.call0 (.g rfl rfl) rfl FactKit11.ok41 rfl rfl (flatDots_0) ?_
  rintro v62 _ ⟨rfl, rfl⟩
  try simp only [List.cons_append, List.nil_append, List.append_nil]
  refine O.slot 62 (v' := .bool true) rfl (congrArg Value.bool (by first | decide | simp)) ?_
  refine O.op (.p rfl) (.pickT rfl rfl) ?_
  refine O.op (.p rfl) (.mv rfl) ?_
  refine O.op (.g rfl rfl) (.mv rfl) ?_
  refine O.op (.g rfl rfl) (.nilCheck rfl) ?_
  refine O.op (.g rfl rfl) (.fieldObj FactKit11.fld71x9 rfl) ?_
  refine O.op (.g rfl rfl) (.loadObj FactKit11.flat56 rfl (by repeat (first | exact Sel.here | apply Sel.there)) rfl) ?_
  refine O.call0 (.g rfl rfl) rfl FactKit11.ok42 rfl rfl (flatRecords_0) ?_
  rintro v69 _ ⟨rfl, rfl⟩
  try simp only [List.cons_append, List.nil_append, List.append_nil]
  refine O.slot 69 (v' := .bool true) rfl (congrArg Value.bool (by first | decide | simp)) ?_
  refine O.op (.p rfl) (.pickT rfl rfl) ?_
  refine O.op (.p rfl) (.mv rfl) ?_
  refine O.op (.g rfl rfl) (.mv rfl) ?_
  refine O.op (.g rfl rfl) (.nilCheck rfl) ?_
  refine O.op (.g rfl rfl) (.fieldObj FactKit11.fld71x10 rfl) ?_
  refine O.op (.g rfl rfl) (.loadObj FactKit11.flat57 rfl (by repeat (first | exact Sel.here | apply Sel.there)) rfl) ?_
  refine O.call0 (.g rfl rfl) rfl FactKit11.ok43 rfl rfl (flatLeaves_0) ?_
  rintro v76 _ ⟨rfl, rfl⟩
  try simp only [List.cons_append, List.nil_append, List.append_nil]
  refine O.slot 76 (v' := .bool true) rfl (congrArg Value.bool (by first | decide | simp)) ?_
  refine O.op (.p rfl) (.pickT rfl rfl) ?_
  refine O.op (.p rfl) (.mv rfl) ?_
  refine O.op (.g rfl rfl) (.mv rfl) ?_
  refine O.op (.g rfl rfl) (.nilCheck rfl) ?_
  refine O.op (.g rfl rfl) (.fieldObj FactKit11.fld71x11 rfl) ?_
  refine O.op (.g rfl rfl) (.loadObj FactKit11.flat58 rfl (by repeat (first | exact Sel.here | apply Sel.there)) rfl) ?_
  refine O.call0 (.g rfl rfl) rfl FactKit11.ok44 rfl rfl (flatGrants_0) ?_
  rintro v83 _ ⟨rfl, rfl⟩
  try simp only [List.cons_append, List.nil_append, List.append_nil]
  refine O.slot 83 (v' := .bool true) rfl (congrArg Value.bool (by first | decide | simp)) ?_
  refine O.op (.p rfl) (.pickT rfl rfl) ?_
  refine O.op (.p rfl) (.mv rfl) ?_
  refine O.op (.g rfl rfl) (.mv rfl) ?_
  refine O.op (.g rfl rfl) (.nilCheck rfl) ?_
  refine O.op (.g rfl rfl) (.fieldObj FactKit11.fld71x12 rfl) ?_
  refine O.op (.g rfl rfl) (.loadObj FactKit11.flat59 rfl (by repeat (first | exact Sel.here | apply Sel.there)) rfl) ?_
  refine O.call0 (.g rfl rfl) rfl FactKit11.ok45 rfl rfl (flatNodes_0) ?_
  rintro v90 _ ⟨rfl, rfl⟩
  try simp only [List.cons_append, List.nil_append, List.append_nil]
  refine O.slot 90 (v' := .bool true) rfl (congrArg Value.bool (by first | decide | simp)) ?_
  refine O.op (.p rfl) (.pickT rfl rfl) ?_
  refine O.op (.p rfl) (.mv rfl) ?_
  refine O.op (.g rfl rfl) (.mv rfl) ?_
  refine O.op (.g rfl rfl) (.nilCheck rfl) ?_
  refine O.op (.g rfl rfl) (.fieldObj FactKit11.fld71x13 rfl) ?_
  refine O.op (.g rfl rfl) (.loadObj FactKit11.flat60 rfl (by repeat (first | exact Sel.here | apply Sel.there)) rfl) ?_
  refine O.call0 (.g rfl rfl) rfl FactKit11.ok46 rfl rfl (flatStubs_0) ?_
  rintro v97 _ ⟨rfl, rfl⟩
  try simp only [List.cons_append, List.nil_append, List.append_nil]
  refine O.slot 97 (v' := .bool true) rfl (congrArg Value.bool (by first | decide | simp)) ?_
  refine O.op (.p rfl) (.pickT rfl rfl) ?_
  refine O.op (.p rfl) (.mv rfl) ?_
  refine O.op (.g rfl rfl) (.mv rfl) ?_
  refine O.op (.g rfl rfl) (.nilCheck rfl) ?_
  refine O.op (.g rfl rfl) (.fieldObj FactKit11.fld71x14 rfl) ?_
  refine O.op (.g rfl rfl) (.loadObj FactKit11.flat61 rfl (by repeat (first | exact Sel.here | apply Sel.there)) rfl) ?_
  refine O.call0 (.g rfl rfl) rfl FactKit11.ok47 rfl rfl (flatProofs_0) ?_
  rintro v104 _ ⟨rfl, rfl⟩
  try simp only [List.cons_append, List.nil_append, List.append_nil]
  refine O.slot 104 (v' := .bool true) rfl (congrArg Value.bool (by first | decide | simp)) ?_
  refine O.op (.p rfl) (.pickT rfl rfl) ?_
  refine O.op (.p rfl) (.mv rfl) ?_
  refine O.op (.g rfl rfl) (.mv rfl) ?_
  refine O.op (.g rfl rfl) (.nilCheck rfl) ?_
  refine O.op (.g rfl rfl) (.fieldObj FactKit11.fld71x15 rfl) ?_
  refine O.op (.g rfl rfl) (.loadObj FactKit11.flat62 rfl (by repeat (first | exact Sel.here | apply Sel.there)) rfl) ?_
  refine O.call0 (.g rfl rfl) rfl FactKit11.ok48 rfl rfl (flatRoots_0) ?_
  rintro v111 _ ⟨rfl, rfl⟩
  try simp only [List.cons_append, List.nil_append, List.append_nil]
  refine O.slot 111 (v' := .bool true) rfl (congrArg Value.bool (by first | decide | simp)) ?_
  refine O.op (.p rfl) (.pickT rfl rfl) ?_
  refine O.op (.p rfl) (.mv rfl) ?_
  refine O.op (.g rfl rfl) (.mv rfl) ?_
  refine O.op (.g rfl rfl) (.nilCheck rfl) ?_
  refine O.op (.g rfl rfl) (.fieldObj FactKit11.fld71x16 rfl) ?_
  refine O.op (.g rfl rfl) (.loadObj FactKit11.flat63 rfl (by repeat (first | exact Sel.here | apply Sel.there)) rfl) ?_
  refine O.call0 (.g rfl rfl) rfl FactKit11.ok49 rfl rfl (flatEvidenceRow_0) ?_
  rintro v118 _ ⟨rfl, rfl⟩
  try simp only [List.cons_append, List.nil_append, List.append_nil]
  refine O.slot 118 (v' := .bool true) rfl (congrArg Value.bool (by first | decide | simp)) ?_
  refine O.op (.p rfl) (.pickT rfl rfl) ?_
  refine O.op (.p rfl) (.mv rfl) ?_
  refine O.op (.g rfl rfl) (.mv rfl) ?_
  refine O.op (.g rfl rfl) (.nilCheck rfl) ?_
  refine O.op (.g rfl rfl) (.fieldObj FactKit11.fld71x17 rfl) ?_
  refine O.op (.g rfl rfl) (.loadObj FactKit11.flat64 rfl (by repeat (first | exact Sel.here | apply Sel.there)) rfl) ?_
  refine O.call0 (.g rfl rfl) rfl FactKit11.ok50 rfl rfl (flatFrames_0) ?_
  rintro v125 _ ⟨rfl, rfl⟩
  try simp only [List.cons_append, List.nil_append, List.append_nil]
  refine O.slot 125 (v' := .bool true) rfl (congrArg Value.bool (by first | decide | simp)) ?_
  refine O.op (.p rfl) (.pickT rfl rfl) ?_
  refine O.op (.p rfl) (.mv rfl) ?_
  refine O.op (.g rfl rfl) (.mv rfl) ?_
  refine O.op (.g rfl rfl) (.nilCheck rfl) ?_
  refine O.op (.g rfl rfl) (.fieldObj FactKit11.fld71x18 rfl) ?_
  refine O.op (.g rfl rfl) (.loadObj FactKit11.flat65 rfl (by repeat (first | exact Sel.here | apply Sel.there)) rfl) ?_
  refine O.call0 (.g rfl rfl) rfl FactKit11.ok51 rfl rfl (flatPackets_0) ?_
  rintro v132 _ ⟨rfl, rfl⟩
  try simp only [List.cons_append, List.nil_append, List.append_nil]
  refine O.slot 132 (v' := .bool true) rfl (congrArg Value.bool (by first | decide | simp)) ?_
  refine O.op (.p rfl) (.pickT rfl rfl) ?_
  refine O.op (.p rfl) (.mv rfl) ?_
  refine O.op (.g rfl rfl) (.mv rfl) ?_
  refine O.op (.g rfl rfl) (.nilCheck rfl) ?_
  refine O.op (.g rfl rfl) (.fieldObj FactKit11.fld71x19 rfl) ?_
  refine O.op (.g rfl rfl) (.loadObj FactKit11.flat42 rfl (by repeat (first | exact Sel.here | apply Sel.there)) rfl) ?_
  refine O.callS (.g rfl rfl) rfl FactKit11.ok52 rfl rfl (by repeat (first | exact Sel.here | apply Sel.there)) (flatEntries_c hle hqe hbe) ?_
  rintro v139 _ ⟨rfl, rfl⟩
  try simp only [List.cons_append, List.nil_append, List.append_nil]
  refine O.slot 139 (v' := .bool true) rfl (congrArg Value.bool (by first | decide | simp)) ?_
  refine O.op (.p rfl) (.pickT rfl rfl) ?_
  refine O.op (.p rfl) (.mv rfl) ?_
  refine O.op (.g rfl rfl) (.mv rfl) ?_
  refine O.op (.g rfl rfl) (.nilCheck rfl) ?_
  refine O.op (.g rfl rfl) (.fieldObj FactKit11.fld71x20 rfl) ?_
  refine O.op (.g rfl rfl) (.loadObj FactKit11.flat66 rfl (by repeat (first | exact Sel.here | apply Sel.there)) rfl) ?_
  refine O.call0 (.g rfl rfl) rfl FactKit11.ok53 rfl rfl (flatHeldRow_0) ?_
  rintro v146 _ ⟨rfl, rfl⟩
  try simp only [List.cons_append, List.nil_append, List.append_nil]
  refine O.slot 146 (v' := .bool true) rfl (congrArg Value.bool (by first | decide | simp)) ?_
  refine O.op (.p rfl) (.pickT rfl rfl) ?_
  refine O.op (.p rfl) (.mv rfl) ?_
  refine O.op (.g rfl rfl) (.mv rfl) ?_
  refine O.op (.g rfl rfl) (.nilCheck rfl) ?_
  refine O.op (.g rfl rfl) (.fieldObj FactKit11.fld71x21 rfl) ?_
  refine O.op (.g rfl rfl) (.loadObj FactKit11.flat67 rfl (by repeat (first | exact Sel.here | apply Sel.there)) rfl) ?_
  refine O.call0 (.g rfl rfl) rfl FactKit11.ok54 rfl rfl (flatConfigs_0) ?_
  rintro v153 _ ⟨rfl, rfl⟩
  try simp only [List.cons_append, List.nil_append, List.append_nil]
  refine O.slot 153 (v' := .bool true) rfl (congrArg Value.bool (by first | decide | simp)) ?_
  refine O.op (.p rfl) (.pickT rfl rfl) ?_
  refine O.op (.p rfl) (.mv rfl) ?_
  refine O.op (.g rfl rfl) (.mv rfl) ?_
  refine O.op (.g rfl rfl) (.nilCheck rfl) ?_
  refine O.op (.g rfl rfl) (.fieldObj FactKit11.fld71x22 rfl) ?_
  refine O.op (.g rfl rfl) (.loadObj FactKit11.flat68 rfl (by repeat (first | exact Sel.here | apply Sel.there)) rfl) ?_
  refine O.call0 (.g rfl rfl) rfl FactKit11.ok55 rfl rfl (flatSteps_0) ?_
  rintro v160 _ ⟨rfl, rfl⟩
  try simp only [List.cons_append, List.nil_append, List.append_nil]
  refine O.slot 160 (v' := .bool true) rfl (congrArg Value.bool (by first | decide | simp)) ?_
  refine O.op (.p rfl) (.pickT rfl rfl) ?_
  refine O.op (.p rfl) (.mv rfl) ?_
  refine O.op (.g rfl rfl) (.mv rfl) ?_
  refine O.op (.g rfl rfl) (.nilCheck rfl) ?_
  refine O.op (.g rfl rfl) (.fieldObj FactKit11.fld71x23 rfl) ?_
  refine O.op (.g rfl rfl) (.loadObj FactKit11.flat69 rfl (by repeat (first | exact Sel.here | apply Sel.there)) rfl) ?_
  refine O.call0 (.g rfl rfl) rfl FactKit11.ok56 rfl rfl (flatTales_0) ?_
  rintro v167 _ ⟨rfl, rfl⟩
  try simp only [List.cons_append, List.nil_append, List.append_nil]
  refine O.slot 167 (v' := .bool true) rfl (congrArg Value.bool (by first | decide | simp)) ?_
  refine O.op (.p rfl) (.pickT rfl rfl) ?_
  refine O.op (.p rfl) (.as rfl) ?_
  refine O.nil ?_
  refine S.ret Go.Proofs.Tryz.results27 rfl fun w hw => Holds.end_ hR hw ?_
  exact ⟨_, ⟨rfl, rfl⟩, by repeat (first | exact Picks.all | exact Picks.nil | (apply Picks.cons; focus (repeat (first | exact Sel.here | apply Sel.there))) | apply Picks.skip)⟩

theorem EntG.open {cs : List Value} {x : EntT} {m : Fr} (h : EntG.own cs x m) : ∃ v, cs = [byteV x.1, v] ∧ OwnP Rp.u8 5 v x.2.1 m := by
  obtain ⟨c1, c2, rfl, z⟩ := h
  obtain ⟨h1, h2, _, s1, s2, hb, h3, t, c3, c4, hc, z2⟩ := Sat.two.1 z
  obtain ⟨k1, k2, _, u1, u2, ⟨v, rfl, ho⟩, k3, t3, hu⟩ := Sat.two.1 z2
  subst hc
  refine ⟨v, ?_, ho.mono (Fr.sub_trans u1 (Fr.sub_trans t s2))⟩
  rw [show c1 = [byteV x.1] from hb, show c4 = [] from hu]; rfl
theorem EntG.shape {cs : List Value} {x : EntT} {m : Fr} (h : EntG.own cs x m) : EntS cs := by
  obtain ⟨v, rfl, ho⟩ := EntG.open h
  obtain ⟨a, c, rfl⟩ := ho.shape
  exact ⟨_, _, _, _, rfl⟩
/-- entries that are one's own: their lists' cells, and their bytes -/
def EntsO (vs : List Value) (ess : List (List EntT)) (csss : List (List (List Value))) : SProp := fun m => (All2 (All2 fun cs (_ : EntT) => EntS cs) csss ess) ∧
  Sat [EachP (OwnP (Rp.cells 2) 25) vs csss, RowsP Rp.u8 5 (csss.flatten.map byV) (ess.flatten.map fun x => x.2.1)] m
theorem ents_open {vs : List Value} {ess : List (List EntT)} {m : Fr} (h : EachP (ListP EntG 25) vs ess m) : ∃ csss, EntsO vs ess csss m := by
  obtain ⟨csss, h1⟩ := EachP.parts (A := OwnP (Rp.cells 2) 25) (B := EachP EntG.own) h
  refine ⟨csss, ?_, ?_⟩
  · obtain ⟨_, _, _, _, _, _, _, _, _, _, _, y, _⟩ := h1
    exact EachP.facts (fun _ _ _ z => EachP.facts (fun _ _ _ z => EntG.shape z) z) y
  · refine Sat.cons_imp (fun _ x => x) (fun m x => ?_) h1
    obtain ⟨p, q, d, s1, s2, y, z⟩ := x
    refine ⟨p, q, d, s1, s2, ?_, z⟩
    refine EachP.map (f := byV) (g := fun x : EntT => x.2.1) (fun cs x m y => ?_) (EachP.flat y)
    obtain ⟨v, rfl, ho⟩ := EntG.open y
    exact ho
theorem all2_left {α β : Type} {Q : β → Prop} : ∀ {bs : List β} {ys : List α}, All2 (fun b (_ : α) => Q b) bs ys → ∀ b ∈ bs, Q b
  | [], _, _, _, h => by cases h
  | _ :: _, [], h, _, _ => h.elim
  | b :: bs, a :: ys, h, c, hc => by
    rcases List.mem_cons.1 hc with rfl | hc
    · exact h.1
    · exact all2_left h.2 c hc
theorem all2_lens {α β : Type} {R : β → α → Prop} : ∀ {bss : List (List β)} {ass : List (List α)}, All2 (All2 R) bss ass → bss.map List.length = ass.map List.length
  | [], [], _ => rfl
  | [], _ :: _, h => h.elim
  | _ :: _, [], h => h.elim
  | _ :: _, _ :: _, h => by rw [List.map_cons, List.map_cons, h.1.len2, all2_lens h.2]
theorem flat_len_le {β : Type} (bss : List (List β)) (k : Nat) : (bss.take k).flatten.length ≤ bss.flatten.length := by
  conv => rhs; rw [← List.take_append_drop k bss]
  rw [List.flatten_append, List.length_append]; omega
theorem flat_take {β : Type} (bss : List (List β)) (k : Nat) (h : k < bss.length) : (bss.take (k + 1)).flatten = (bss.take k).flatten ++ bss[k] := by
  rw [List.take_succ_eq_append_getElem h, List.flatten_append, List.flatten_singleton]
theorem flat_one_le {β : Type} : ∀ {bss : List (List β)} {x : List β}, x ∈ bss → x.length ≤ bss.flatten.length
  | b :: bss, x, h => by
    rw [List.flatten_cons, List.length_append]
    rcases List.mem_cons.1 h with rfl | h
    · omega
    · have := flat_one_le h; omega
theorem apartEntries_c {r : Fr} {va : Value} {vs : List Value} {ess : List (List EntT)} (hls : Arr Rp.val r va vs) (hq : ∀ es ∈ ess, ∀ x ∈ es, x.2.1.length ≤ 100000000) (hb : ess.flatten.length ≤ 10000000) (hb2 : ess.length ≤ 10000000) :
    Con Go.Proofs.Tryz.prog 16 #[va] r [EachP (ListP EntG 25) vs ess] (Ret fun v η => v = .bool true ∧ η = []) := by
  refine Con.of (n := 21) [va] rfl Go.Proofs.Tryz.func16 rfl rfl rfl fun g hg R hR => ?_
  have hls := hls.mono hg
  obtain ⟨a1, c1, rfl⟩ := hls.shape
  refine S.factS Sel.here (fun _ x => EachP.len x) fun hlen => ?_
  refine S.conv (C := fun m => ∃ csss, EntsO vs ess csss m) Sel.here (fun m x => ⟨m, Fr.sub_refl _, ents_open x⟩) ?_
  refine S.exi fun csss => ?_
  refine S.factS Sel.here (fun _ x => x.1) fun hsh => ?_
  refine S.entail (fun _ x => x.2) ?_
  have hsl := all2_left (Q := fun css => ∀ cs ∈ css, EntS cs) (All2.imp (fun _ _ x => all2_left x) hsh)
  have hll := all2_lens hsh
  have hcl : csss.length = vs.length := by rw [hsh.len2, hlen]
  have hfl : csss.flatten.length = ess.flatten.length := by rw [List.length_flatten, List.length_flatten, hll]
  have hq1 : ∀ x ∈ csss, x.length ≤ 100000000 := fun x hx => by
    have h1 : x.length ≤ csss.flatten.length := flat_one_le hx
    omega
  have hq2 : ∀ x ∈ ess.flatten.map (fun x => x.2.1), x.length ≤ 100000000 := fun x hx => by
    obtain ⟨y, hy, rfl⟩ := List.mem_map.1 hx
    obtain ⟨es, he, hy⟩ := List.mem_flatten.1 hy
    exact hq es he y hy
  simp only [List.cons_append, List.nil_append]
  refine S.frzT (B := EachP (OwnP (Rp.cells 2) 25) vs csss) (by repeat (first | exact Sel.here | apply Sel.there)) fun g1 hs1 ⟨m1, hm1', hsm1⟩ th1 => ?_
  have hrd : All2 (Arr (Rp.cells 2) g1.h) vs csss := EachP.all2 (fun _ _ _ x s => x.arr.mono s) hm1' hsm1
  have hls0 := hls
  replace hls := hls.mono hs1
  refine S.seq (S.region rfl ?_)
  refine O.op (.p rfl) (.as rfl) ?_
  refine O.nil ?_
  refine S.seq (S.region rfl ?_)
  refine O.op (.p rfl) (.build (cs := [_, _, _, _, _, _, _, _, _, _, _, _, _, _, _, _, _, _, _, _, _, _, _, _]) Go.Proofs.Tryz.underlying71 rfl rfl rfl rfl rfl) ?_
  refine O.opE (.p rfl) (.box (cs := [_, _, _, _, _, _, _, _, _, _, _, _, _, _, _, _, _, _, _, _, _, _, _, _]) rfl rfl) ?_
  rintro _ _ ⟨b6, rfl, rfl⟩
  refine O.op (.p rfl) (.as rfl) ?_
  refine O.nil ?_
  refine S.seq (S.seq (S.region rfl ?_))
  refine O.op (.p rfl) (.as rfl) ?_
  refine O.nil ?_
  refine S.block ?_
  refine S.addNil (T := Rp.val) (e := 37) ?_
  refine S.addNil (T := Rp.val) (e := 23) ?_
  refine S.loopK3 (ι := Nat) (κ := Option Addr × Nat) (υ := Option Addr × Nat) (fun k s s2 => k ≤ vs.length) (fun k s s2 => [(4, .int .i64 (k : Int))]) [(0, _), (3, _)] (fun k s s2 => [OwnP Rp.val 23 (.slice s.1 ((csss.take k).flatten.map byV).length s.2) ((csss.take k).flatten.map byV), OwnP Rp.val 37 (.slice s2.1 (vs.take k).length s2.2) (vs.take k), obj b6 71 (bagE (.slice s.1 ((csss.take k).flatten.map byV).length s.2) (.slice s2.1 (vs.take k).length s2.2)), RowsP Rp.u8 5 (csss.flatten.map byV) (ess.flatten.map fun x => x.2.1)]) (fun k s s2 => vs.length - k) (0) ((none, 0)) ((none, 0)) (by simp) (.cons rfl (.nil)) (.cons rfl (.cons rfl (.nil))) rfl fun k s s2 hx ih => ?_
  have hm1 := meltRefl (g := g)
  refine S.seq (S.seq (S.region rfl ?_))
  refine O.op (.p rfl) (.mv rfl) ?_
  refine O.op (.p rfl) (.mv rfl) ?_
  refine O.op (.p rfl) (.len rfl Go.Proofs.Tryz.underlying42 rfl) ?_
  refine O.op (.p rfl) (.lss rfl rfl) ?_
  refine O.nil ?_
  first | refine S.condD rfl (fun h10 => ?_) (fun h10 => ?_) | refine S.condB rfl (fun h10 => ?_) (fun h10 => ?_)
  · have hk : k < vs.length := by omega
    have hkc : k < csss.length := by omega
    have hl : (vs.take k).length = k := by simp; omega
    have hm5 : (csss.take k).flatten.map byV ++ csss[k].map byV = (csss.take (k + 1)).flatten.map byV := by rw [flat_take csss k hkc, List.map_append]
    have hl5 : ((csss.take k).flatten.map byV).length + csss[k].length = ((csss.take (k + 1)).flatten.map byV).length := by rw [← hm5, List.length_append]; exact congrArg _ (List.length_map ..).symm
    have hl6 := flat_len_le csss (k + 1)
    have hl7 : ((csss.take (k + 1)).flatten.map byV).length = (csss.take (k + 1)).flatten.length := List.length_map ..
    have hvk : Arr (Rp.cells 2) g1.h vs[k] csss[k] := hrd.get k hk hkc
    obtain ⟨ak, ck, hve⟩ := hvk.shape
    refine S.skip (S.seq (S.block (S.region rfl ?_)))
    refine O.op (.p rfl) (.mv rfl) ?_
    refine O.op (.p rfl) (.mv rfl) ?_
    refine O.op (.p rfl) (.mv rfl) ?_
    refine O.idx' (.p rfl) Go.Proofs.Tryz.underlying42 FactKit11.size37 rfl rfl rfl (hls) (by decide) (by first | omega | (simp; done) | (simp; omega) | decide) (fun p16 cs16 hp16 hr16 => ?_)
    obtain ⟨rfl, _⟩ := hr16
    refine O.op (.p rfl) (.loadAt FactKit11.flat37 rfl hp16 rfl) ?_
    refine O.callSs (.p rfl) rfl FactKit11.ok31 rfl rfl (by repeat (first | exact Sels.nil | (apply Sels.cons; focus (repeat (first | exact Sel.here | apply Sel.there))))) (putEntries_c (va := vs[k]) hvk (hsl _ (List.getElem_mem _)) (by omega) (by omega)) ?_
    rintro v18 _ ⟨a18, c18, a3, c3, rfl, rfl⟩
    try simp only [List.cons_append, List.nil_append, List.append_nil]
    refine O.nil ?_
    refine S.inBlock (S.region rfl ?_)
    refine O.op (.p rfl) (.mv rfl) ?_
    refine O.op (.p rfl) (.add rfl rfl (IntWalk.i64_in _ (by omega))) ?_
    refine O.op (.p rfl) (.as rfl) ?_
    refine O.nil ?_
    have hl2 : (vs.take k).length + 1 = (vs.take (k + 1)).length := by simp; omega
    rw [← List.take_succ_eq_append_getElem hk, hl2, hl5, hm5]
    refine S.pk ?_ (S.weaken ?_ (ih (k + 1) ((a18, c18)) ((a3, c3)) (by omega) (by omega)))
    · repeat (first | exact Picks.all | exact Picks.nil | (apply Picks.cons; focus (repeat (first | exact Sel.here | apply Sel.there))) | apply Picks.skip)
    repeat (first | exact Sub.nil | refine Sub.cons rfl ?_)
  · clear ih
    have hk : k = vs.length := by omega
    subst hk
    rw [← hcl, List.take_length, hcl, List.take_length]
    refine th1 ?_
    replace hls := hls0
    refine S.frzA (by repeat (first | exact Sel.here | apply Sel.there)) fun g hs hm hby => ?_
    replace hg := Fr.sub_trans hg hs
    replace hR := melted hR hm
    try replace hls := hls.mono hs
    replace hm1 := meltTrans hm1 hm
    clear hs hm
    refine S.frzA (by repeat (first | exact Sel.here | apply Sel.there)) fun g hs hm hen => ?_
    replace hg := Fr.sub_trans hg hs
    replace hR := melted hR hm
    try replace hls := hls.mono hs
    try replace hby := hby.mono hs
    replace hm1 := meltTrans hm1 hm
    clear hs hm
    refine S.exit rfl ?_
    refine S.seq (S.region rfl ?_)
    refine O.op (.p rfl) (.mv rfl) ?_
    refine O.callSs (.p rfl) rfl FactKit11.ok27 rfl rfl (by repeat (first | exact Sels.nil | (apply Sels.cons; focus (repeat (first | exact Sel.here | apply Sel.there))))) (apartE_c hby hq2 (by rw [List.length_map]; omega) hen hq1 (by omega)) ?_
    rintro v20 _ ⟨rfl, rfl⟩
    try simp only [List.cons_append, List.nil_append, List.append_nil]
    refine O.op (.p rfl) (.as rfl) ?_
    refine O.nil ?_
    refine S.ret Go.Proofs.Tryz.results16 rfl fun w hw => Holds.end_ hR hw ?_
    exact ⟨_, ⟨rfl, rfl⟩, by repeat (first | exact Picks.all | exact Picks.nil | (apply Picks.cons; focus (repeat (first | exact Sel.here | apply Sel.there))) | apply Picks.skip)⟩

end Go.Proofs.YtcghiboamlaenaaGreat
