import Derived.Test.YthaebmfgelaleaaGreatKp3
import Derived.Test.YthaebmfgelaleaaGreatNet2
import Derived.Test.YthaebmfgelaleaaGreatSpZero
open Go Go.Sp
set_option maxRecDepth 100000
attribute [local irreducible] obj Own OwnP
namespace Go.Proofs.YthaebmfgelaleaaGreat
theorem FactKp4.flat100 : Go.Sp.flat1 Go.Proofs.Tryz.prog 100 = true := by kernel_rfl
theorem FactKp4.flat101 : Go.Sp.flat1 Go.Proofs.Tryz.prog 101 = true := by kernel_rfl
theorem FactKp4.flat29 : Go.Sp.flat1 Go.Proofs.Tryz.prog 29 = true := by kernel_rfl
theorem FactKp4.flat50 : Go.Sp.flat1 Go.Proofs.Tryz.prog 50 = true := by kernel_rfl
theorem FactKp4.flat79 : Go.Sp.flat1 Go.Proofs.Tryz.prog 79 = true := by kernel_rfl
theorem FactKp4.flat80 : Go.Sp.flat1 Go.Proofs.Tryz.prog 80 = true := by kernel_rfl
theorem FactKp4.flat81 : Go.Sp.flat1 Go.Proofs.Tryz.prog 81 = true := by kernel_rfl
theorem FactKp4.flat82 : Go.Sp.flat1 Go.Proofs.Tryz.prog 82 = true := by kernel_rfl
theorem FactKp4.flat83 : Go.Sp.flat1 Go.Proofs.Tryz.prog 83 = true := by kernel_rfl
theorem FactKp4.flat84 : Go.Sp.flat1 Go.Proofs.Tryz.prog 84 = true := by kernel_rfl
theorem FactKp4.flat85 : Go.Sp.flat1 Go.Proofs.Tryz.prog 85 = true := by kernel_rfl
theorem FactKp4.flat86 : Go.Sp.flat1 Go.Proofs.Tryz.prog 86 = true := by kernel_rfl
theorem FactKp4.flat87 : Go.Sp.flat1 Go.Proofs.Tryz.prog 87 = true := by kernel_rfl
theorem FactKp4.flat88 : Go.Sp.flat1 Go.Proofs.Tryz.prog 88 = true := by kernel_rfl
theorem FactKp4.flat89 : Go.Sp.flat1 Go.Proofs.Tryz.prog 89 = true := by kernel_rfl
theorem FactKp4.flat90 : Go.Sp.flat1 Go.Proofs.Tryz.prog 90 = true := by kernel_rfl
theorem FactKp4.flat91 : Go.Sp.flat1 Go.Proofs.Tryz.prog 91 = true := by kernel_rfl
theorem FactKp4.flat92 : Go.Sp.flat1 Go.Proofs.Tryz.prog 92 = true := by kernel_rfl
theorem FactKp4.flat93 : Go.Sp.flat1 Go.Proofs.Tryz.prog 93 = true := by kernel_rfl
theorem FactKp4.flat94 : Go.Sp.flat1 Go.Proofs.Tryz.prog 94 = true := by kernel_rfl
theorem FactKp4.flat95 : Go.Sp.flat1 Go.Proofs.Tryz.prog 95 = true := by kernel_rfl
theorem FactKp4.flat96 : Go.Sp.flat1 Go.Proofs.Tryz.prog 96 = true := by kernel_rfl
theorem FactKp4.flat97 : Go.Sp.flat1 Go.Proofs.Tryz.prog 97 = true := by kernel_rfl
theorem FactKp4.flat98 : Go.Sp.flat1 Go.Proofs.Tryz.prog 98 = true := by kernel_rfl
theorem FactKp4.flat99 : Go.Sp.flat1 Go.Proofs.Tryz.prog 99 = true := by kernel_rfl
theorem FactKp4.fld103x0 : fieldOff Go.Proofs.Tryz.prog 103 0 = some 0 := by kernel_rfl
theorem FactKp4.fld103x1 : fieldOff Go.Proofs.Tryz.prog 103 1 = some 1 := by kernel_rfl
theorem FactKp4.fld103x10 : fieldOff Go.Proofs.Tryz.prog 103 10 = some 10 := by kernel_rfl
theorem FactKp4.fld103x11 : fieldOff Go.Proofs.Tryz.prog 103 11 = some 11 := by kernel_rfl
theorem FactKp4.fld103x12 : fieldOff Go.Proofs.Tryz.prog 103 12 = some 12 := by kernel_rfl
theorem FactKp4.fld103x13 : fieldOff Go.Proofs.Tryz.prog 103 13 = some 13 := by kernel_rfl
theorem FactKp4.fld103x14 : fieldOff Go.Proofs.Tryz.prog 103 14 = some 14 := by kernel_rfl
theorem FactKp4.fld103x15 : fieldOff Go.Proofs.Tryz.prog 103 15 = some 15 := by kernel_rfl
theorem FactKp4.fld103x16 : fieldOff Go.Proofs.Tryz.prog 103 16 = some 16 := by kernel_rfl
theorem FactKp4.fld103x17 : fieldOff Go.Proofs.Tryz.prog 103 17 = some 17 := by kernel_rfl
theorem FactKp4.fld103x18 : fieldOff Go.Proofs.Tryz.prog 103 18 = some 18 := by kernel_rfl
theorem FactKp4.fld103x19 : fieldOff Go.Proofs.Tryz.prog 103 19 = some 19 := by kernel_rfl
theorem FactKp4.fld103x2 : fieldOff Go.Proofs.Tryz.prog 103 2 = some 2 := by kernel_rfl
theorem FactKp4.fld103x20 : fieldOff Go.Proofs.Tryz.prog 103 20 = some 20 := by kernel_rfl
theorem FactKp4.fld103x21 : fieldOff Go.Proofs.Tryz.prog 103 21 = some 21 := by kernel_rfl
theorem FactKp4.fld103x22 : fieldOff Go.Proofs.Tryz.prog 103 22 = some 22 := by kernel_rfl
theorem FactKp4.fld103x23 : fieldOff Go.Proofs.Tryz.prog 103 23 = some 23 := by kernel_rfl
theorem FactKp4.fld103x3 : fieldOff Go.Proofs.Tryz.prog 103 3 = some 3 := by kernel_rfl
theorem FactKp4.fld103x4 : fieldOff Go.Proofs.Tryz.prog 103 4 = some 4 := by kernel_rfl
theorem FactKp4.fld103x5 : fieldOff Go.Proofs.Tryz.prog 103 5 = some 5 := by kernel_rfl
theorem FactKp4.fld103x6 : fieldOff Go.Proofs.Tryz.prog 103 6 = some 6 := by kernel_rfl
theorem FactKp4.fld103x7 : fieldOff Go.Proofs.Tryz.prog 103 7 = some 7 := by kernel_rfl
theorem FactKp4.fld103x8 : fieldOff Go.Proofs.Tryz.prog 103 8 = some 8 := by kernel_rfl
theorem FactKp4.fld103x9 : fieldOff Go.Proofs.Tryz.prog 103 9 = some 9 := by kernel_rfl
theorem FactKp4.ok45 : callable Go.Proofs.Tryz.prog 45 = true := by kernel_rfl
theorem FactKp4.ok46 : callable Go.Proofs.Tryz.prog 46 = true := by kernel_rfl
theorem FactKp4.ok60 : callable Go.Proofs.Tryz.prog 60 = true := by kernel_rfl
theorem FactKp4.ok61 : callable Go.Proofs.Tryz.prog 61 = true := by kernel_rfl
theorem FactKp4.ok62 : callable Go.Proofs.Tryz.prog 62 = true := by kernel_rfl
theorem FactKp4.ok63 : callable Go.Proofs.Tryz.prog 63 = true := by kernel_rfl
theorem FactKp4.ok64 : callable Go.Proofs.Tryz.prog 64 = true := by kernel_rfl
theorem FactKp4.ok65 : callable Go.Proofs.Tryz.prog 65 = true := by kernel_rfl
theorem FactKp4.ok66 : callable Go.Proofs.Tryz.prog 66 = true := by kernel_rfl
theorem FactKp4.ok67 : callable Go.Proofs.Tryz.prog 67 = true := by kernel_rfl
theorem FactKp4.ok68 : callable Go.Proofs.Tryz.prog 68 = true := by kernel_rfl
theorem FactKp4.ok69 : callable Go.Proofs.Tryz.prog 69 = true := by kernel_rfl
theorem FactKp4.ok70 : callable Go.Proofs.Tryz.prog 70 = true := by kernel_rfl
theorem FactKp4.ok71 : callable Go.Proofs.Tryz.prog 71 = true := by kernel_rfl
theorem FactKp4.ok72 : callable Go.Proofs.Tryz.prog 72 = true := by kernel_rfl
theorem FactKp4.ok73 : callable Go.Proofs.Tryz.prog 73 = true := by kernel_rfl
theorem FactKp4.ok74 : callable Go.Proofs.Tryz.prog 74 = true := by kernel_rfl
theorem FactKp4.ok75 : callable Go.Proofs.Tryz.prog 75 = true := by kernel_rfl
theorem FactKp4.ok76 : callable Go.Proofs.Tryz.prog 76 = true := by kernel_rfl
theorem FactKp4.ok77 : callable Go.Proofs.Tryz.prog 77 = true := by kernel_rfl
theorem FactKp4.ok78 : callable Go.Proofs.Tryz.prog 78 = true := by kernel_rfl
theorem FactKp4.ok79 : callable Go.Proofs.Tryz.prog 79 = true := by kernel_rfl
theorem FactKp4.ok80 : callable Go.Proofs.Tryz.prog 80 = true := by kernel_rfl
theorem FactKp4.ok81 : callable Go.Proofs.Tryz.prog 81 = true := by kernel_rfl
theorem FactKp4.ok82 : callable Go.Proofs.Tryz.prog 82 = true := by kernel_rfl
theorem FactKp4.ok83 : callable Go.Proofs.Tryz.prog 83 = true := by kernel_rfl
theorem FactKp4.size29 : (Go.Proofs.Tryz.prog.info? 29).map (·.size) = some 1 := by kernel_rfl

theorem apartP_c {r : Fr} {b : Nat} {u w : Value} {vs ws : List Value} {xss : List (List UInt8)} {csss : List (List (List Value))} (hls : Arr Rp.val r u vs) (hq : ∀ x ∈ xss, x.length ≤ 100000000) (hb : xss.length ≤ 100000000) (hle : Arr Rp.val r w ws) (hqe : ∀ x ∈ csss, x.length ≤ 100000000) (hbe : csss.length ≤ 100000000) :
    Con Go.Proofs.Tryz.prog 46 #[.pointer (some ⟨b, 0, none⟩)] r [obj b 103 (bagP u w), RowsP Rp.u8 5 vs xss, EachP (OwnP (Rp.cells 3) 35) ws csss] (Ret fun v η => v = .bool true ∧ η = []) := by
  refine Con.of (n := 169) [.pointer (some ⟨b, 0, none⟩)] rfl Go.Proofs.Tryz.func46 rfl rfl rfl fun g hg R hR => ?_
  have hls := hls.mono hg
  have hle := hle.mono hg
  unfold bagP
  refine S.seq (S.region rfl ?_)
  refine O.op (.p rfl) (.as rfl) ?_
  refine O.nil ?_
  refine S.seq (S.region rfl ?_)
  refine O.op (.p rfl) (.mv rfl) ?_
  refine O.op (.p rfl) (.nilCheck rfl) ?_
  refine O.op (.p rfl) (.fieldObj FactKp4.fld103x0 rfl) ?_
  refine O.op (.p rfl) (.loadObj FactKp4.flat79 rfl (by repeat (first | exact Sel.here | apply Sel.there)) rfl) ?_
  refine O.call0 (.p rfl) rfl FactKp4.ok60 rfl rfl (flatLimbs_0) ?_
  rintro v7 _ ⟨rfl, rfl⟩
  try simp only [List.cons_append, List.nil_append, List.append_nil]
  refine O.slot 7 (v' := .bool true) rfl (congrArg Value.bool (by first | decide | simp)) ?_
  refine O.op (.p rfl) (.mv rfl) ?_
  refine O.op (.g rfl rfl) (.mv rfl) ?_
  refine O.op (.g rfl rfl) (.nilCheck rfl) ?_
  refine O.op (.g rfl rfl) (.fieldObj FactKp4.fld103x1 rfl) ?_
  refine O.op (.g rfl rfl) (.loadObj FactKp4.flat80 rfl (by repeat (first | exact Sel.here | apply Sel.there)) rfl) ?_
  refine O.call0 (.g rfl rfl) rfl FactKp4.ok61 rfl rfl (flatWords_0) ?_
  rintro v13 _ ⟨rfl, rfl⟩
  try simp only [List.cons_append, List.nil_append, List.append_nil]
  refine O.slot 13 (v' := .bool true) rfl (congrArg Value.bool (by first | decide | simp)) ?_
  refine O.op (.p rfl) (.pickT rfl rfl) ?_
  refine O.op (.p rfl) (.mv rfl) ?_
  refine O.op (.g rfl rfl) (.mv rfl) ?_
  refine O.op (.g rfl rfl) (.nilCheck rfl) ?_
  refine O.op (.g rfl rfl) (.fieldObj FactKp4.fld103x2 rfl) ?_
  refine O.op (.g rfl rfl) (.loadObj FactKp4.flat81 rfl (by repeat (first | exact Sel.here | apply Sel.there)) rfl) ?_
  refine O.call0 (.g rfl rfl) rfl FactKp4.ok62 rfl rfl (flatInts_0) ?_
  rintro v20 _ ⟨rfl, rfl⟩
  try simp only [List.cons_append, List.nil_append, List.append_nil]
  refine O.slot 20 (v' := .bool true) rfl (congrArg Value.bool (by first | decide | simp)) ?_
  refine O.op (.p rfl) (.pickT rfl rfl) ?_
  refine O.op (.p rfl) (.mv rfl) ?_
  refine O.op (.g rfl rfl) (.mv rfl) ?_
  refine O.op (.g rfl rfl) (.nilCheck rfl) ?_
  refine O.op (.g rfl rfl) (.fieldObj FactKp4.fld103x3 rfl) ?_
  refine O.op (.g rfl rfl) (.loadObj FactKp4.flat82 rfl (by repeat (first | exact Sel.here | apply Sel.there)) rfl) ?_
  refine O.call0 (.g rfl rfl) rfl FactKp4.ok63 rfl rfl (flatLongs_0) ?_
  rintro v27 _ ⟨rfl, rfl⟩
  try simp only [List.cons_append, List.nil_append, List.append_nil]
  refine O.slot 27 (v' := .bool true) rfl (congrArg Value.bool (by first | decide | simp)) ?_
  refine O.op (.p rfl) (.pickT rfl rfl) ?_
  refine O.op (.p rfl) (.mv rfl) ?_
  refine O.op (.g rfl rfl) (.mv rfl) ?_
  refine O.op (.g rfl rfl) (.nilCheck rfl) ?_
  refine O.op (.g rfl rfl) (.fieldObj FactKp4.fld103x4 rfl) ?_
  refine O.op (.g rfl rfl) (.loadObj FactKp4.flat83 rfl (by repeat (first | exact Sel.here | apply Sel.there)) rfl) ?_
  refine O.call0 (.g rfl rfl) rfl FactKp4.ok64 rfl rfl (flatTexts_0) ?_
  rintro v34 _ ⟨rfl, rfl⟩
  try simp only [List.cons_append, List.nil_append, List.append_nil]
  refine O.slot 34 (v' := .bool true) rfl (congrArg Value.bool (by first | decide | simp)) ?_
  refine O.op (.p rfl) (.pickT rfl rfl) ?_
  refine O.op (.p rfl) (.mv rfl) ?_
  refine O.op (.g rfl rfl) (.mv rfl) ?_
  refine O.op (.g rfl rfl) (.nilCheck rfl) ?_
  refine O.op (.g rfl rfl) (.fieldObj FactKp4.fld103x5 rfl) ?_
  refine O.op (.g rfl rfl) (.loadObj FactKp4.flat84 rfl (by repeat (first | exact Sel.here | apply Sel.there)) rfl) ?_
  refine O.callS (.g rfl rfl) rfl FactKp4.ok65 rfl rfl (by repeat (first | exact Sel.here | apply Sel.there)) (flatBytes_c hls hq hb) ?_
  rintro v41 _ ⟨rfl, rfl⟩
  try simp only [List.cons_append, List.nil_append, List.append_nil]
  refine O.slot 41 (v' := .bool true) rfl (congrArg Value.bool (by first | decide | simp)) ?_
  refine O.op (.p rfl) (.pickT rfl rfl) ?_
  refine O.op (.p rfl) (.mv rfl) ?_
  refine O.op (.g rfl rfl) (.mv rfl) ?_
  refine O.op (.g rfl rfl) (.nilCheck rfl) ?_
  refine O.op (.g rfl rfl) (.fieldObj FactKp4.fld103x6 rfl) ?_
  refine O.op (.g rfl rfl) (.loadObj FactKp4.flat85 rfl (by repeat (first | exact Sel.here | apply Sel.there)) rfl) ?_
  refine O.call0 (.g rfl rfl) rfl FactKp4.ok66 rfl rfl (flatTruths_0) ?_
  rintro v48 _ ⟨rfl, rfl⟩
  try simp only [List.cons_append, List.nil_append, List.append_nil]
  refine O.slot 48 (v' := .bool true) rfl (congrArg Value.bool (by first | decide | simp)) ?_
  refine O.op (.p rfl) (.pickT rfl rfl) ?_
  refine O.op (.p rfl) (.mv rfl) ?_
  refine O.op (.g rfl rfl) (.mv rfl) ?_
  refine O.op (.g rfl rfl) (.nilCheck rfl) ?_
  refine O.op (.g rfl rfl) (.fieldObj FactKp4.fld103x7 rfl) ?_
  refine O.op (.g rfl rfl) (.loadObj FactKp4.flat86 rfl (by repeat (first | exact Sel.here | apply Sel.there)) rfl) ?_
  refine O.call0 (.g rfl rfl) rfl FactKp4.ok67 rfl rfl (flatRows_0) ?_
  rintro v55 _ ⟨rfl, rfl⟩
  try simp only [List.cons_append, List.nil_append, List.append_nil]
  refine O.slot 55 (v' := .bool true) rfl (congrArg Value.bool (by first | decide | simp)) ?_
  refine O.op (.p rfl) (.pickT rfl rfl) ?_
  refine O.op (.p rfl) (.mv rfl) ?_
  refine O.op (.g rfl rfl) (.mv rfl) ?_
  refine O.op (.g rfl rfl) (.nilCheck rfl) ?_
  refine O.op (.g rfl rfl) (.fieldObj FactKp4.fld103x8 rfl) ?_
  refine O.op (.g rfl rfl) (.loadObj FactKp4.flat87 rfl (by repeat (first | exact Sel.here | apply Sel.there)) rfl) ?_
  refine O.call0 (.g rfl rfl) rfl FactKp4.ok68 rfl rfl (flatDots_0) ?_
  rintro v62 _ ⟨rfl, rfl⟩
  try simp only [List.cons_append, List.nil_append, List.append_nil]
  refine O.slot 62 (v' := .bool true) rfl (congrArg Value.bool (by first | decide | simp)) ?_
  refine O.op (.p rfl) (.pickT rfl rfl) ?_
  refine O.op (.p rfl) (.mv rfl) ?_
  refine O.op (.g rfl rfl) (.mv rfl) ?_
  refine O.op (.g rfl rfl) (.nilCheck rfl) ?_
  refine O.op (.g rfl rfl) (.fieldObj FactKp4.fld103x9 rfl) ?_
  refine O.op (.g rfl rfl) (.loadObj FactKp4.flat88 rfl (by repeat (first | exact Sel.here | apply Sel.there)) rfl) ?_
  refine O.call0 (.g rfl rfl) rfl FactKp4.ok69 rfl rfl (flatRecords_0) ?_
  rintro v69 _ ⟨rfl, rfl⟩
  try simp only [List.cons_append, List.nil_append, List.append_nil]
  refine O.slot 69 (v' := .bool true) rfl (congrArg Value.bool (by first | decide | simp)) ?_
  refine O.op (.p rfl) (.pickT rfl rfl) ?_
  refine O.op (.p rfl) (.mv rfl) ?_
  refine O.op (.g rfl rfl) (.mv rfl) ?_
  refine O.op (.g rfl rfl) (.nilCheck rfl) ?_
  refine O.op (.g rfl rfl) (.fieldObj FactKp4.fld103x10 rfl) ?_
  refine O.op (.g rfl rfl) (.loadObj FactKp4.flat89 rfl (by repeat (first | exact Sel.here | apply Sel.there)) rfl) ?_
  refine O.call0 (.g rfl rfl) rfl FactKp4.ok70 rfl rfl (flatLeaves_0) ?_
  rintro v76 _ ⟨rfl, rfl⟩
  try simp only [List.cons_append, List.nil_append, List.append_nil]
  refine O.slot 76 (v' := .bool true) rfl (congrArg Value.bool (by first | decide | simp)) ?_
  refine O.op (.p rfl) (.pickT rfl rfl) ?_
  refine O.op (.p rfl) (.mv rfl) ?_
  refine O.op (.g rfl rfl) (.mv rfl) ?_
  refine O.op (.g rfl rfl) (.nilCheck rfl) ?_
  refine O.op (.g rfl rfl) (.fieldObj FactKp4.fld103x11 rfl) ?_
  refine O.op (.g rfl rfl) (.loadObj FactKp4.flat90 rfl (by repeat (first | exact Sel.here | apply Sel.there)) rfl) ?_
  refine O.call0 (.g rfl rfl) rfl FactKp4.ok71 rfl rfl (flatGrants_0) ?_
  rintro v83 _ ⟨rfl, rfl⟩
  try simp only [List.cons_append, List.nil_append, List.append_nil]
  refine O.slot 83 (v' := .bool true) rfl (congrArg Value.bool (by first | decide | simp)) ?_
  refine O.op (.p rfl) (.pickT rfl rfl) ?_
  refine O.op (.p rfl) (.mv rfl) ?_
  refine O.op (.g rfl rfl) (.mv rfl) ?_
  refine O.op (.g rfl rfl) (.nilCheck rfl) ?_
  refine O.op (.g rfl rfl) (.fieldObj FactKp4.fld103x12 rfl) ?_
  refine O.op (.g rfl rfl) (.loadObj FactKp4.flat91 rfl (by repeat (first | exact Sel.here | apply Sel.there)) rfl) ?_
  refine O.call0 (.g rfl rfl) rfl FactKp4.ok72 rfl rfl (flatNodes_0) ?_
  rintro v90 _ ⟨rfl, rfl⟩
  try simp only [List.cons_append, List.nil_append, List.append_nil]
  refine O.slot 90 (v' := .bool true) rfl (congrArg Value.bool (by first | decide | simp)) ?_
  refine O.op (.p rfl) (.pickT rfl rfl) ?_
  refine O.op (.p rfl) (.mv rfl) ?_
  refine O.op (.g rfl rfl) (.mv rfl) ?_
  refine O.op (.g rfl rfl) (.nilCheck rfl) ?_
  refine O.op (.g rfl rfl) (.fieldObj FactKp4.fld103x13 rfl) ?_
  refine O.op (.g rfl rfl) (.loadObj FactKp4.flat92 rfl (by repeat (first | exact Sel.here | apply Sel.there)) rfl) ?_
  refine O.call0 (.g rfl rfl) rfl FactKp4.ok73 rfl rfl (flatStubs_0) ?_
  rintro v97 _ ⟨rfl, rfl⟩
  try simp only [List.cons_append, List.nil_append, List.append_nil]
  refine O.slot 97 (v' := .bool true) rfl (congrArg Value.bool (by first | decide | simp)) ?_
  refine O.op (.p rfl) (.pickT rfl rfl) ?_
  refine O.op (.p rfl) (.mv rfl) ?_
  refine O.op (.g rfl rfl) (.mv rfl) ?_
  refine O.op (.g rfl rfl) (.nilCheck rfl) ?_
  refine O.op (.g rfl rfl) (.fieldObj FactKp4.fld103x14 rfl) ?_
  refine O.op (.g rfl rfl) (.loadObj FactKp4.flat93 rfl (by repeat (first | exact Sel.here | apply Sel.there)) rfl) ?_
  refine O.call0 (.g rfl rfl) rfl FactKp4.ok74 rfl rfl (flatProofs_0) ?_
  rintro v104 _ ⟨rfl, rfl⟩
  try simp only [List.cons_append, List.nil_append, List.append_nil]
  refine O.slot 104 (v' := .bool true) rfl (congrArg Value.bool (by first | decide | simp)) ?_
  refine O.op (.p rfl) (.pickT rfl rfl) ?_
  refine O.op (.p rfl) (.mv rfl) ?_
  refine O.op (.g rfl rfl) (.mv rfl) ?_
  refine O.op (.g rfl rfl) (.nilCheck rfl) ?_
  refine O.op (.g rfl rfl) (.fieldObj FactKp4.fld103x15 rfl) ?_
  refine O.op (.g rfl rfl) (.loadObj FactKp4.flat94 rfl (by repeat (first | exact Sel.here | apply Sel.there)) rfl) ?_
  refine O.call0 (.g rfl rfl) rfl FactKp4.ok75 rfl rfl (flatRoots_0) ?_
  rintro v111 _ ⟨rfl, rfl⟩
  try simp only [List.cons_append, List.nil_append, List.append_nil]
  refine O.slot 111 (v' := .bool true) rfl (congrArg Value.bool (by first | decide | simp)) ?_
  refine O.op (.p rfl) (.pickT rfl rfl) ?_
  refine O.op (.p rfl) (.mv rfl) ?_
  refine O.op (.g rfl rfl) (.mv rfl) ?_
  refine O.op (.g rfl rfl) (.nilCheck rfl) ?_
  refine O.op (.g rfl rfl) (.fieldObj FactKp4.fld103x16 rfl) ?_
  refine O.op (.g rfl rfl) (.loadObj FactKp4.flat95 rfl (by repeat (first | exact Sel.here | apply Sel.there)) rfl) ?_
  refine O.call0 (.g rfl rfl) rfl FactKp4.ok76 rfl rfl (flatEvidenceRow_0) ?_
  rintro v118 _ ⟨rfl, rfl⟩
  try simp only [List.cons_append, List.nil_append, List.append_nil]
  refine O.slot 118 (v' := .bool true) rfl (congrArg Value.bool (by first | decide | simp)) ?_
  refine O.op (.p rfl) (.pickT rfl rfl) ?_
  refine O.op (.p rfl) (.mv rfl) ?_
  refine O.op (.g rfl rfl) (.mv rfl) ?_
  refine O.op (.g rfl rfl) (.nilCheck rfl) ?_
  refine O.op (.g rfl rfl) (.fieldObj FactKp4.fld103x17 rfl) ?_
  refine O.op (.g rfl rfl) (.loadObj FactKp4.flat96 rfl (by repeat (first | exact Sel.here | apply Sel.there)) rfl) ?_
  refine O.call0 (.g rfl rfl) rfl FactKp4.ok77 rfl rfl (flatFrames_0) ?_
  rintro v125 _ ⟨rfl, rfl⟩
  try simp only [List.cons_append, List.nil_append, List.append_nil]
  refine O.slot 125 (v' := .bool true) rfl (congrArg Value.bool (by first | decide | simp)) ?_
  refine O.op (.p rfl) (.pickT rfl rfl) ?_
  refine O.op (.p rfl) (.mv rfl) ?_
  refine O.op (.g rfl rfl) (.mv rfl) ?_
  refine O.op (.g rfl rfl) (.nilCheck rfl) ?_
  refine O.op (.g rfl rfl) (.fieldObj FactKp4.fld103x18 rfl) ?_
  refine O.op (.g rfl rfl) (.loadObj FactKp4.flat50 rfl (by repeat (first | exact Sel.here | apply Sel.there)) rfl) ?_
  refine O.callS (.g rfl rfl) rfl FactKp4.ok78 rfl rfl (by repeat (first | exact Sel.here | apply Sel.there)) (flatPackets_c hle hqe hbe) ?_
  rintro v132 _ ⟨rfl, rfl⟩
  try simp only [List.cons_append, List.nil_append, List.append_nil]
  refine O.slot 132 (v' := .bool true) rfl (congrArg Value.bool (by first | decide | simp)) ?_
  refine O.op (.p rfl) (.pickT rfl rfl) ?_
  refine O.op (.p rfl) (.mv rfl) ?_
  refine O.op (.g rfl rfl) (.mv rfl) ?_
  refine O.op (.g rfl rfl) (.nilCheck rfl) ?_
  refine O.op (.g rfl rfl) (.fieldObj FactKp4.fld103x19 rfl) ?_
  refine O.op (.g rfl rfl) (.loadObj FactKp4.flat97 rfl (by repeat (first | exact Sel.here | apply Sel.there)) rfl) ?_
  refine O.call0 (.g rfl rfl) rfl FactKp4.ok79 rfl rfl (flatEntries_0) ?_
  rintro v139 _ ⟨rfl, rfl⟩
  try simp only [List.cons_append, List.nil_append, List.append_nil]
  refine O.slot 139 (v' := .bool true) rfl (congrArg Value.bool (by first | decide | simp)) ?_
  refine O.op (.p rfl) (.pickT rfl rfl) ?_
  refine O.op (.p rfl) (.mv rfl) ?_
  refine O.op (.g rfl rfl) (.mv rfl) ?_
  refine O.op (.g rfl rfl) (.nilCheck rfl) ?_
  refine O.op (.g rfl rfl) (.fieldObj FactKp4.fld103x20 rfl) ?_
  refine O.op (.g rfl rfl) (.loadObj FactKp4.flat98 rfl (by repeat (first | exact Sel.here | apply Sel.there)) rfl) ?_
  refine O.call0 (.g rfl rfl) rfl FactKp4.ok80 rfl rfl (flatHeldRow_0) ?_
  rintro v146 _ ⟨rfl, rfl⟩
  try simp only [List.cons_append, List.nil_append, List.append_nil]
  refine O.slot 146 (v' := .bool true) rfl (congrArg Value.bool (by first | decide | simp)) ?_
  refine O.op (.p rfl) (.pickT rfl rfl) ?_
  refine O.op (.p rfl) (.mv rfl) ?_
  refine O.op (.g rfl rfl) (.mv rfl) ?_
  refine O.op (.g rfl rfl) (.nilCheck rfl) ?_
  refine O.op (.g rfl rfl) (.fieldObj FactKp4.fld103x21 rfl) ?_
  refine O.op (.g rfl rfl) (.loadObj FactKp4.flat99 rfl (by repeat (first | exact Sel.here | apply Sel.there)) rfl) ?_
  refine O.call0 (.g rfl rfl) rfl FactKp4.ok81 rfl rfl (flatConfigs_0) ?_
  rintro v153 _ ⟨rfl, rfl⟩
  try simp only [List.cons_append, List.nil_append, List.append_nil]
  refine O.slot 153 (v' := .bool true) rfl (congrArg Value.bool (by first | decide | simp)) ?_
  refine O.op (.p rfl) (.pickT rfl rfl) ?_
  refine O.op (.p rfl) (.mv rfl) ?_
  refine O.op (.g rfl rfl) (.mv rfl) ?_
  refine O.op (.g rfl rfl) (.nilCheck rfl) ?_
  refine O.op (.g rfl rfl) (.fieldObj FactKp4.fld103x22 rfl) ?_
  refine O.op (.g rfl rfl) (.loadObj FactKp4.flat100 rfl (by repeat (first | exact Sel.here | apply Sel.there)) rfl) ?_
  refine O.call0 (.g rfl rfl) rfl FactKp4.ok82 rfl rfl (flatSteps_0) ?_
  rintro v160 _ ⟨rfl, rfl⟩
  try simp only [List.cons_append, List.nil_append, List.append_nil]
  refine O.slot 160 (v' := .bool true) rfl (congrArg Value.bool (by first | decide | simp)) ?_
  refine O.op (.p rfl) (.pickT rfl rfl) ?_
  refine O.op (.p rfl) (.mv rfl) ?_
  refine O.op (.g rfl rfl) (.mv rfl) ?_
  refine O.op (.g rfl rfl) (.nilCheck rfl) ?_
  refine O.op (.g rfl rfl) (.fieldObj FactKp4.fld103x23 rfl) ?_
  refine O.op (.g rfl rfl) (.loadObj FactKp4.flat101 rfl (by repeat (first | exact Sel.here | apply Sel.there)) rfl) ?_
  refine O.call0 (.g rfl rfl) rfl FactKp4.ok83 rfl rfl (flatTales_0) ?_
  rintro v167 _ ⟨rfl, rfl⟩
  try simp only [List.cons_append, List.nil_append, List.append_nil]
  refine O.slot 167 (v' := .bool true) rfl (congrArg Value.bool (by first | decide | simp)) ?_
  refine O.op (.p rfl) (.pickT rfl rfl) ?_
  refine O.op (.p rfl) (.as rfl) ?_
  refine O.nil ?_
  refine S.ret Go.Proofs.Tryz.results46 rfl fun w hw => Holds.end_ hR hw ?_
  exact ⟨_, ⟨rfl, rfl⟩, by repeat (first | exact Picks.all | exact Picks.nil | (apply Picks.cons; focus (repeat (first | exact Sel.here | apply Sel.there))) | apply Picks.skip)⟩

theorem pktG.shape {cs : List Value} {x : Pkt} {m : Fr} (h : pktG.own cs x m) : PktS cs := by
  obtain ⟨v, rfl, _, _, ho⟩ := PktG.open h
  obtain ⟨a, c, rfl⟩ := ho.shape
  exact ⟨_, _, _, _, _, rfl⟩
/-- packets that are one's own: their lists' cells, and their bytes -/
def PktsO (vs : List Value) (ess : List (List Pkt)) (csss : List (List (List Value))) : SProp := fun m => (All2 (All2 fun cs (_ : Pkt) => PktS cs) csss ess) ∧
  Sat [EachP (OwnP (Rp.cells 3) 35) vs csss, RowsP Rp.u8 5 (csss.flatten.map byV) (ess.flatten.map fun x => x.2.2.1)] m
theorem pkts_open {vs : List Value} {ess : List (List Pkt)} {m : Fr} (h : EachP (ListP pktG 35) vs ess m) : ∃ csss, PktsO vs ess csss m := by
  obtain ⟨csss, h1⟩ := EachP.parts (A := OwnP (Rp.cells 3) 35) (B := EachP pktG.own) h
  refine ⟨csss, ?_, ?_⟩
  · obtain ⟨_, _, _, _, _, _, _, _, _, _, _, y, _⟩ := h1
    exact EachP.facts (fun _ _ _ z => EachP.facts (fun _ _ _ z => pktG.shape z) z) y
  · refine Sat.cons_imp (fun _ x => x) (fun m x => ?_) h1
    obtain ⟨p, q, d, s1, s2, y, z⟩ := x
    refine ⟨p, q, d, s1, s2, ?_, z⟩
    refine EachP.map (f := byV) (g := fun x : Pkt => x.2.2.1) (fun cs x m y => ?_) (EachP.flat y)
    obtain ⟨v, rfl, _, _, ho⟩ := PktG.open y
    exact ho
theorem all2_left {α β : Type} {Q : β → Prop} : ∀ {bs : List β} {ys : List α}, All2 (fun b (_ : α) => Q b) bs ys → ∀ b ∈ bs, Q b
  | [], _, _, _, h => by cases h
  | _ :: _, [], h, _, _ => h.elim
  | b :: bs, a :: ys, h, c, hc => by
    rcases List.mem_cons.1 hc with rfl | hc
    · exact h.1
    · exact all2_left h.2 c hc
theorem all2_lens {α β : Type} {R : β → α → Prop} : ∀ {bss : List (List β)} {ass : List (List α)}, All2 (All2 R) bss ass → bss.map List.length = ass.map List.length
  | [], [], _ => rfl
  | [], _ :: _, h => h.elim
  | _ :: _, [], h => h.elim
  | _ :: _, _ :: _, h => by rw [List.map_cons, List.map_cons, h.1.len2, all2_lens h.2]
theorem flat_len_le {β : Type} (bss : List (List β)) (k : Nat) : (bss.take k).flatten.length ≤ bss.flatten.length := by
  conv => rhs; rw [← List.take_append_drop k bss]
  rw [List.flatten_append, List.length_append]; omega
theorem flat_take {β : Type} (bss : List (List β)) (k : Nat) (h : k < bss.length) : (bss.take (k + 1)).flatten = (bss.take k).flatten ++ bss[k] := by
  rw [List.take_succ_eq_append_getElem h, List.flatten_append, List.flatten_singleton]
theorem flat_one_le {β : Type} : ∀ {bss : List (List β)} {x : List β}, x ∈ bss → x.length ≤ bss.flatten.length
  | b :: bss, x, h => by
    rw [List.flatten_cons, List.length_append]
    rcases List.mem_cons.1 h with rfl | h
    · omega
    · have := flat_one_le h; omega
theorem apartPackets_c {r : Fr} {va : Value} {vs : List Value} {ess : List (List Pkt)} (hls : Arr Rp.val r va vs) (hq : ∀ es ∈ ess, ∀ x ∈ es, x.2.2.1.length ≤ 100000000) (hb : ess.flatten.length ≤ 10000000) (hb2 : ess.length ≤ 10000000) :
    Con Go.Proofs.Tryz.prog 25 #[va] r [EachP (ListP pktG 35) vs ess] (Ret fun v η => v = .bool true ∧ η = []) := by
  refine Con.of (n := 21) [va] rfl Go.Proofs.Tryz.func25 rfl rfl rfl fun g hg R hR => ?_
  have hls := hls.mono hg
  obtain ⟨a1, c1, rfl⟩ := hls.shape
  refine S.factS Sel.here (fun _ x => EachP.len x) fun hlen => ?_
  refine S.conv (C := fun m => ∃ csss, PktsO vs ess csss m) Sel.here (fun m x => ⟨m, Fr.sub_refl _, pkts_open x⟩) ?_
  refine S.exi fun csss => ?_
  refine S.factS Sel.here (fun _ x => x.1) fun hsh => ?_
  refine S.entail (fun _ x => x.2) ?_
  have hsl := all2_left (Q := fun css => ∀ cs ∈ css, PktS cs) (All2.imp (fun _ _ x => all2_left x) hsh)
  have hll := all2_lens hsh
  have hcl : csss.length = vs.length := by rw [hsh.len2, hlen]
  have hfl : csss.flatten.length = ess.flatten.length := by rw [List.length_flatten, List.length_flatten, hll]
  have hq1 : ∀ x ∈ csss, x.length ≤ 100000000 := fun x hx => by
    have h1 : x.length ≤ csss.flatten.length := flat_one_le hx
    omega
  have hq2 : ∀ x ∈ ess.flatten.map (fun x => x.2.2.1), x.length ≤ 100000000 := fun x hx => by
    obtain ⟨y, hy, rfl⟩ := List.mem_map.1 hx
    obtain ⟨es, he, hy⟩ := List.mem_flatten.1 hy
    exact hq es he y hy
  simp only [List.cons_append, List.nil_append]
  refine S.frzT (B := EachP (OwnP (Rp.cells 3) 35) vs csss) (by repeat (first | exact Sel.here | apply Sel.there)) fun g1 hs1 ⟨m1, hm1', hsm1⟩ th1 => ?_
  have hrd : All2 (Arr (Rp.cells 3) g1.h) vs csss := EachP.all2 (fun _ _ _ x s => x.arr.mono s) hm1' hsm1
  have hls0 := hls
  replace hls := hls.mono hs1
  refine S.seq (S.region rfl ?_)
  refine O.op (.p rfl) (.as rfl) ?_
  refine O.nil ?_
  refine S.seq (S.region rfl ?_)
  refine O.op (.p rfl) (.build (cs := [_, _, _, _, _, _, _, _, _, _, _, _, _, _, _, _, _, _, _, _, _, _, _, _]) Go.Proofs.Tryz.underlying103 rfl rfl rfl rfl rfl) ?_
  refine O.opE (.p rfl) (.box (cs := [_, _, _, _, _, _, _, _, _, _, _, _, _, _, _, _, _, _, _, _, _, _, _, _]) rfl rfl) ?_
  rintro _ _ ⟨b6, rfl, rfl⟩
  refine O.op (.p rfl) (.as rfl) ?_
  refine O.nil ?_
  refine S.seq (S.seq (S.region rfl ?_))
  refine O.op (.p rfl) (.as rfl) ?_
  refine O.nil ?_
  refine S.block ?_
  refine S.addNil (T := Rp.val) (e := 29) ?_
  refine S.addNil (T := Rp.val) (e := 33) ?_
  refine S.loopK3 (ι := Nat) (κ := Option Addr × Nat) (υ := Option Addr × Nat) (fun k s s2 => k ≤ vs.length) (fun k s s2 => [(4, .int .i64 (k : Int))]) [(0, _), (3, _)] (fun k s s2 => [OwnP Rp.val 33 (.slice s.1 ((csss.take k).flatten.map byV).length s.2) ((csss.take k).flatten.map byV), OwnP Rp.val 29 (.slice s2.1 (vs.take k).length s2.2) (vs.take k), obj b6 103 (bagP (.slice s.1 ((csss.take k).flatten.map byV).length s.2) (.slice s2.1 (vs.take k).length s2.2)), RowsP Rp.u8 5 (csss.flatten.map byV) (ess.flatten.map fun x => x.2.2.1)]) (fun k s s2 => vs.length - k) (0) ((none, 0)) ((none, 0)) (by simp) (.cons rfl (.nil)) (.cons rfl (.cons rfl (.nil))) rfl fun k s s2 hx ih => ?_
  have hm1 := meltRefl (g := g)
  refine S.seq (S.seq (S.region rfl ?_))
  refine O.op (.p rfl) (.mv rfl) ?_
  refine O.op (.p rfl) (.mv rfl) ?_
  refine O.op (.p rfl) (.len rfl Go.Proofs.Tryz.underlying50 rfl) ?_
  refine O.op (.p rfl) (.lss rfl rfl) ?_
  refine O.nil ?_
  first | refine S.condD rfl (fun h10 => ?_) (fun h10 => ?_) | refine S.condB rfl (fun h10 => ?_) (fun h10 => ?_)
  · have hk : k < vs.length := by omega
    have hkc : k < csss.length := by omega
    have hl : (vs.take k).length = k := by simp; omega
    have hm5 : (csss.take k).flatten.map byV ++ csss[k].map byV = (csss.take (k + 1)).flatten.map byV := by rw [flat_take csss k hkc, List.map_append]
    have hl5 : ((csss.take k).flatten.map byV).length + csss[k].length = ((csss.take (k + 1)).flatten.map byV).length := by rw [← hm5, List.length_append]; exact congrArg _ (List.length_map ..).symm
    have hl6 := flat_len_le csss (k + 1)
    have hl7 : ((csss.take (k + 1)).flatten.map byV).length = (csss.take (k + 1)).flatten.length := List.length_map ..
    have hvk : Arr (Rp.cells 3) g1.h vs[k] csss[k] := hrd.get k hk hkc
    obtain ⟨ak, ck, hve⟩ := hvk.shape
    refine S.skip (S.seq (S.block (S.region rfl ?_)))
    refine O.op (.p rfl) (.mv rfl) ?_
    refine O.op (.p rfl) (.mv rfl) ?_
    refine O.op (.p rfl) (.mv rfl) ?_
    refine O.idx' (.p rfl) Go.Proofs.Tryz.underlying50 FactKp4.size29 rfl rfl rfl (hls) (by decide) (by first | omega | (simp; done) | (simp; omega) | decide) (fun p16 cs16 hp16 hr16 => ?_)
    obtain ⟨rfl, _⟩ := hr16
    refine O.op (.p rfl) (.loadAt FactKp4.flat29 rfl hp16 rfl) ?_
    refine O.callSs (.p rfl) rfl FactKp4.ok45 rfl rfl (by repeat (first | exact Sels.nil | (apply Sels.cons; focus (repeat (first | exact Sel.here | apply Sel.there))))) (putPackets_c (va := vs[k]) hvk (hsl _ (List.getElem_mem _)) (by omega) (by omega)) ?_
    rintro v18 _ ⟨a18, c18, a3, c3, rfl, rfl⟩
    try simp only [List.cons_append, List.nil_append, List.append_nil]
    refine O.nil ?_
    refine S.inBlock (S.region rfl ?_)
    refine O.op (.p rfl) (.mv rfl) ?_
    refine O.op (.p rfl) (.add rfl rfl (IntWalk.i64_in _ (by omega))) ?_
    refine O.op (.p rfl) (.as rfl) ?_
    refine O.nil ?_
    have hl2 : (vs.take k).length + 1 = (vs.take (k + 1)).length := by simp; omega
    rw [← List.take_succ_eq_append_getElem hk, hl2, hl5, hm5]
    refine S.pk ?_ (S.weaken ?_ (ih (k + 1) ((a18, c18)) ((a3, c3)) (by omega) (by omega)))
    · repeat (first | exact Picks.all | exact Picks.nil | (apply Picks.cons; focus (repeat (first | exact Sel.here | apply Sel.there))) | apply Picks.skip)
    repeat (first | exact Sub.nil | refine Sub.cons rfl ?_)
  · clear ih
    have hk : k = vs.length := by omega
    subst hk
    rw [← hcl, List.take_length, hcl, List.take_length]
    refine th1 ?_
    replace hls := hls0
    refine S.frzA (by repeat (first | exact Sel.here | apply Sel.there)) fun g hs hm hby => ?_
    replace hg := Fr.sub_trans hg hs
    replace hR := melted hR hm
    try replace hls := hls.mono hs
    replace hm1 := meltTrans hm1 hm
    clear hs hm
    refine S.frzA (by repeat (first | exact Sel.here | apply Sel.there)) fun g hs hm hen => ?_
    replace hg := Fr.sub_trans hg hs
    replace hR := melted hR hm
    try replace hls := hls.mono hs
    try replace hby := hby.mono hs
    replace hm1 := meltTrans hm1 hm
    clear hs hm
    refine S.exit rfl ?_
    refine S.seq (S.region rfl ?_)
    refine O.op (.p rfl) (.mv rfl) ?_
    refine O.callSs (.p rfl) rfl FactKp4.ok46 rfl rfl (by repeat (first | exact Sels.nil | (apply Sels.cons; focus (repeat (first | exact Sel.here | apply Sel.there))))) (apartP_c hby hq2 (by rw [List.length_map]; omega) hen hq1 (by omega)) ?_
    rintro v20 _ ⟨rfl, rfl⟩
    try simp only [List.cons_append, List.nil_append, List.append_nil]
    refine O.op (.p rfl) (.as rfl) ?_
    refine O.nil ?_
    refine S.ret Go.Proofs.Tryz.results25 rfl fun w hw => Holds.end_ hR hw ?_
    exact ⟨_, ⟨rfl, rfl⟩, by repeat (first | exact Picks.all | exact Picks.nil | (apply Picks.cons; focus (repeat (first | exact Sel.here | apply Sel.there))) | apply Picks.skip)⟩

end Go.Proofs.YthaebmfgelaleaaGreat
