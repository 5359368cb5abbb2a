import Derived.Test.YtodhbhanmdfdeaaImg6
open Go Go.Sp
set_option maxRecDepth 100000
attribute [local irreducible] obj Own OwnP
namespace Go.Proofs.Ytodhbhanmdfdeaa
theorem FactImg7.elem3 : elemIs Go.Proofs.Try.prog 3 1 8 [.int .i64 0] := elemIs.mk (by kernel_rfl) rfl
theorem FactImg7.elem5 : elemIs Go.Proofs.Try.prog 5 1 1 [.int .u8 0] := elemIs.mk (by kernel_rfl) rfl
theorem FactImg7.flat5 : Go.Sp.flat1 Go.Proofs.Try.prog 5 = true := by kernel_rfl
theorem FactImg7.ok7 : callable Go.Proofs.Try.prog 7 = true := by kernel_rfl
theorem FactImg7.ok8 : callable Go.Proofs.Try.prog 8 = true := by kernel_rfl
theorem FactImg7.size5 : (Go.Proofs.Try.prog.info? 5).map (·.size) = some 1 := by kernel_rfl

theorem img0 : imgW ([], [], [], [], ()) = some (List.replicate 32 0) := by simp [imgW, rowSteps, WSt.zero]; decide
theorem img1 : imgW ([], [], [], [2], ()) = some (List.replicate 31 0 ++ [1] ++ (List.replicate 7 0 ++ [2])) := by simp [imgW, rowSteps, WSt.zero, shutStep]; decide
theorem img2 : imgW ([], [], [], [2, 1], ()) = none := by simp [imgW, rowSteps, WSt.zero, shutStep]
theorem imgOut0 : imgOut ([], [], [], [], ()) = List.replicate 32 0 := by simp only [imgOut, img0]; rfl
theorem imgErr0 : imgErr ([], [], [], [], ()) = 0 := by simp [imgErr, img0]
theorem imgOut1 : imgOut ([], [], [], [2], ()) = List.replicate 31 0 ++ [1] ++ (List.replicate 7 0 ++ [2]) := by simp only [imgOut, img1]; rfl
theorem imgErr1 : imgErr ([], [], [], [2], ()) = 0 := by simp [imgErr, img1]
theorem imgErr2 : imgErr ([], [], [], [2, 1], ()) = 4 := by simp [imgErr, img2]
theorem heldB0 (l : List Int) (h : l.length ≤ 3000) : HeldB ([], [], [], l, ()) := ⟨⟨by simp, by simp⟩, by simp, by simp, h⟩
theorem awake_c {r : Fr} : Con Go.Proofs.Try.prog 4 #[] r [] (Ret fun v η => v = .bool true ∧ η = []) := by
  refine Con.of (n := 56) [] rfl Go.Proofs.Try.func4 rfl rfl rfl fun g hg R hR => ?_
  refine S.seq (S.region rfl ?_)
  refine O.op (.p rfl) (.as rfl) ?_
  refine O.nil ?_
  refine S.seq (S.region rfl ?_)
  refine O.op (.p rfl) (.build (cs := [_, _, _, _]) Go.Proofs.Try.underlying27 rfl rfl rfl rfl rfl) ?_
  refine O.call0 (.p rfl) rfl FactImg7.ok7 rfl rfl ((iPut_c (HeldRp.mk Arr.nil Arr.nil Arr.nil Arr.nil) (heldB0 [] (by decide)))) ?_
  rintro v9 _ ⟨a9, c9, rfl, rfl⟩
  try simp only [List.cons_append, List.nil_append, List.append_nil]
  rw [imgOut0, imgErr0]
  refine O.op (.p rfl) (.mv rfl) ?_
  refine O.op (.p rfl) (.extract rfl rfl) ?_
  refine O.op (.p rfl) (.extract rfl rfl) ?_
  refine O.op (.p rfl) (.as rfl) ?_
  refine O.op (.p rfl) (.as rfl) ?_
  refine O.nil ?_
  refine S.seq ?_
  refine S.frzA (by repeat (first | exact Sel.here | apply Sel.there)) fun g hs hm hz1 => ?_
  replace hg := Fr.sub_trans hg hs
  replace hR := melted hR hm
  clear hs hm
  refine S.region rfl ?_
  refine O.opE (.p rfl) (.litP (T := Rp.i64) (ys := [2]) Go.Proofs.Try.underlying25 FactImg7.elem3 (by decide) rfl rfl ⟨⟨rfl, by first | assumption | (constructor <;> omega)⟩, trivial⟩ (by decide)) ?_
  rintro _ _ ⟨a13, c13, rfl, rfl⟩
  refine O.op (.p rfl) (.build (cs := [_, _, _, _]) Go.Proofs.Try.underlying27 rfl rfl rfl rfl rfl) ?_
  refine O.callB (.p rfl) rfl FactImg7.ok7 rfl rfl (bs := [OwnP Rp.i64 3 (.slice a13 1 c13) [2]]) (by repeat (first | exact Sels.nil | (apply Sels.cons; focus (repeat (first | exact Sel.here | apply Sel.there))))) (fun m hm hd => iPut_c (HeldRp.mk Arr.nil Arr.nil Arr.nil (hm.arr.right hd)) (heldB0 [2] (by decide))) ?_
  rintro v15 _ ⟨a15, c15, rfl, rfl⟩
  try simp only [List.cons_append, List.nil_append, List.append_nil]
  rw [imgOut1, imgErr1]
  refine O.op (.p rfl) (.mv rfl) ?_
  refine O.op (.p rfl) (.extract rfl rfl) ?_
  refine O.op (.p rfl) (.extract rfl rfl) ?_
  refine O.op (.p rfl) (.as rfl) ?_
  refine O.op (.p rfl) (.as rfl) ?_
  refine O.nil ?_
  refine S.seq ?_
  refine S.frzA (by repeat (first | exact Sel.here | apply Sel.there)) fun g hs hm hz2 => ?_
  replace hg := Fr.sub_trans hg hs
  replace hR := melted hR hm
  try replace hz1 := hz1.mono hs
  clear hs hm
  refine S.region rfl ?_
  refine O.opE (.p rfl) (.litP (T := Rp.i64) (ys := [2, 1]) Go.Proofs.Try.underlying25 FactImg7.elem3 (by decide) rfl rfl ⟨⟨rfl, by first | assumption | (constructor <;> omega)⟩, ⟨rfl, by first | assumption | (constructor <;> omega)⟩, trivial⟩ (by decide)) ?_
  rintro _ _ ⟨a19, c19, rfl, rfl⟩
  refine O.op (.p rfl) (.build (cs := [_, _, _, _]) Go.Proofs.Try.underlying27 rfl rfl rfl rfl rfl) ?_
  refine O.callB (.p rfl) rfl FactImg7.ok7 rfl rfl (bs := [OwnP Rp.i64 3 (.slice a19 2 c19) [2, 1]]) (by repeat (first | exact Sels.nil | (apply Sels.cons; focus (repeat (first | exact Sel.here | apply Sel.there))))) (fun m hm hd => iPut_c (HeldRp.mk Arr.nil Arr.nil Arr.nil (hm.arr.right hd)) (heldB0 [2, 1] (by decide))) ?_
  rintro v21 _ ⟨a21, c21, rfl, rfl⟩
  try simp only [List.cons_append, List.nil_append, List.append_nil]
  rw [imgErr2]
  refine O.op (.p rfl) (.mv rfl) ?_
  refine O.op (.p rfl) (.extract rfl rfl) ?_
  refine O.op (.p rfl) (.extract rfl rfl) ?_
  refine O.op (.p rfl) (.as rfl) ?_
  refine O.op (.p rfl) (.as rfl) ?_
  refine O.nil ?_
  refine S.seq (S.region rfl ?_)
  refine O.op (.p rfl) (.mv rfl) ?_
  refine O.op (.p rfl) (.eql rfl rfl) ?_
  refine O.slot 25 (v' := .bool true) rfl (congrArg Value.bool (by rfl)) ?_
  refine O.op (.p rfl) (.mv rfl) ?_
  refine O.op (.g rfl rfl) (.mv rfl) ?_
  refine O.opE (.g rfl rfl) (.makeP (T := Rp.u8) (0 : UInt8) (m := 32) Go.Proofs.Try.underlying32 FactImg7.elem5 (by decide) rfl rfl rfl rfl rfl (by decide) (by decide)) ?_
  rintro v28 _ ⟨a28, c28, rfl, rfl⟩
  refine O.callB (.g rfl rfl) rfl FactImg7.ok8 rfl rfl (bs := [OwnP Rp.u8 5 (.slice a28 32 c28) (List.replicate 32 0)]) (by repeat (first | exact Sels.nil | (apply Sels.cons; focus (repeat (first | exact Sel.here | apply Sel.there))))) (fun m hm hd => SameBytes_c hz1.left (hm.arr.right hd)) ?_
  rintro v29 _ ⟨rfl, rfl⟩
  try simp only [List.cons_append, List.nil_append, List.append_nil]
  refine O.slot 29 (v' := .bool true) rfl (congrArg Value.bool (by rfl)) ?_
  refine O.op (.p rfl) (.pickT rfl rfl) ?_
  refine O.op (.p rfl) (.mv rfl) ?_
  refine O.op (.g rfl rfl) (.mv rfl) ?_
  refine O.op (.g rfl rfl) (.eql rfl rfl) ?_
  refine O.slot 33 (v' := .bool true) rfl (congrArg Value.bool (by rfl)) ?_
  refine O.op (.p rfl) (.pickT rfl rfl) ?_
  refine O.op (.p rfl) (.mv rfl) ?_
  refine O.op (.g rfl rfl) (.mv rfl) ?_
  refine O.op (.g rfl rfl) (.len rfl Go.Proofs.Try.underlying32 rfl) ?_
  refine O.op (.g rfl rfl) (.eql rfl rfl) ?_
  refine O.slot 38 (v' := .bool true) rfl (congrArg Value.bool (by rfl)) ?_
  refine O.op (.p rfl) (.pickT rfl rfl) ?_
  refine O.op (.p rfl) (.mv rfl) ?_
  refine O.op (.g rfl rfl) (.mv rfl) ?_
  refine O.idx' (.g rfl rfl) Go.Proofs.Try.underlying32 FactImg7.size5 rfl rfl (show _ = (((31) : Nat) : Int) by omega) (hz2) (by decide) (by first | omega | (simp; done) | (simp; omega) | decide) (fun p42 cs42 hp42 hr42 => ?_)
  cases hr42
  refine O.op (.g rfl rfl) (.loadAt FactImg7.flat5 rfl hp42 rfl) ?_
  refine O.op (.g rfl rfl) (.eql rfl rfl) ?_
  refine O.slot 44 (v' := .bool true) rfl (congrArg Value.bool (by rfl)) ?_
  refine O.op (.p rfl) (.pickT rfl rfl) ?_
  refine O.op (.p rfl) (.mv rfl) ?_
  refine O.op (.g rfl rfl) (.mv rfl) ?_
  refine O.idx' (.g rfl rfl) Go.Proofs.Try.underlying32 FactImg7.size5 rfl rfl (show _ = (((39) : Nat) : Int) by omega) (hz2) (by decide) (by first | omega | (simp; done) | (simp; omega) | decide) (fun p48 cs48 hp48 hr48 => ?_)
  cases hr48
  refine O.op (.g rfl rfl) (.loadAt FactImg7.flat5 rfl hp48 rfl) ?_
  refine O.op (.g rfl rfl) (.eql rfl rfl) ?_
  refine O.slot 50 (v' := .bool true) rfl (congrArg Value.bool (by rfl)) ?_
  refine O.op (.p rfl) (.pickT rfl rfl) ?_
  refine O.op (.p rfl) (.mv rfl) ?_
  refine O.op (.g rfl rfl) (.mv rfl) ?_
  refine O.op (.g rfl rfl) (.eql rfl rfl) ?_
  refine O.slot 54 (v' := .bool true) rfl (congrArg Value.bool (by rfl)) ?_
  refine O.op (.p rfl) (.pickT rfl rfl) ?_
  refine O.op (.p rfl) (.as rfl) ?_
  refine O.nil ?_
  refine S.ret Go.Proofs.Try.results4 rfl fun w hw => Holds.end_ hR hw ?_
  exact ⟨_, ⟨rfl, rfl⟩, by repeat (first | exact Picks.all | exact Picks.nil | (apply Picks.cons; focus (repeat (first | exact Sel.here | apply Sel.there))) | apply Picks.skip)⟩

end Go.Proofs.Ytodhbhanmdfdeaa
