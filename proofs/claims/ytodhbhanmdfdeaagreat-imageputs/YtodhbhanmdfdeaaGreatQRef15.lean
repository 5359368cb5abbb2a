/- Texts of this proof, one behind the other. -/
import Derived.Test.YtodhbhanmdfdeaaGreatQFc
import Derived.Test.YtodhbhanmdfdeaaGreatQImg6
import Derived.Test.YtodhbhanmdfdeaaGreatQSpAuto
section
/- Texts of this proof, one behind the other. -/
section
/- Texts of this proof. -/
open Go Go.Sp
set_option maxRecDepth 100000
attribute [local irreducible] obj Own OwnP
namespace Go.Proofs.YtodhbhanmdfdeaaGreat
theorem img0 : imgW ([], [], [], [], ()) = some (List.replicate 32 0) := by simp [imgW, rowSteps, WSt.zero]; decide
theorem img1 : imgW ([], [], [], [2], ()) = some (List.replicate 31 0 ++ [1] ++ (List.replicate 7 0 ++ [2])) := by simp [imgW, rowSteps, WSt.zero, shutStep]; decide
theorem img2 : imgW ([], [], [], [2, 1], ()) = none := by simp [imgW, rowSteps, WSt.zero, shutStep]
theorem imgOut0 : imgOut ([], [], [], [], ()) = List.replicate 32 0 := by simp only [imgOut, img0]; rfl
theorem imgErr0 : imgErr ([], [], [], [], ()) = 0 := by simp [imgErr, img0]
theorem imgOut1 : imgOut ([], [], [], [2], ()) = List.replicate 31 0 ++ [1] ++ (List.replicate 7 0 ++ [2]) := by simp only [imgOut, img1]; rfl
theorem imgErr1 : imgErr ([], [], [], [2], ()) = 0 := by simp [imgErr, img1]
theorem imgErr2 : imgErr ([], [], [], [2, 1], ()) = 4 := by simp [imgErr, img2]
theorem heldB0 (l : List Int) (h : l.length ≤ 3000) : HeldB ([], [], [], l, ()) := ⟨⟨by simp, by simp⟩, by simp, by simp, h⟩
theorem awake_c {r : Fr} : Con Tryz.prog 15 #[] r [] (Ret fun v η => v = .bool true ∧ η = []) := by
 refine Con.of (n := 56) _ rfl Tryz.func15 rfl rfl rfl fun g hg R hR => ?_
 refine S.seq <| S.region rfl <| O.q 1 rfl <| O.nil <| S.seq <| S.region rfl <| O.op (.p rfl) (.build (cs := [_, _, _, _]) Tryz.underlying27 rfl rfl rfl rfl rfl) <| O.call0 (.p rfl) rfl F.ok17 rfl rfl ((iPut_c (HeldRp.mk Arr.nil Arr.nil Arr.nil Arr.nil) (heldB0 [] (by decide)))) ?_
 rintro v9 _ ⟨a9, c9, rfl, rfl⟩
 try simp only [zx1, zx2, zx3]
 rw [imgOut0, imgErr0]
 refine O.q 5 rfl <| O.nil <| S.seq <| S.frzA (by repeat (first | exact zh | apply zt)) fun g hs hm hz1 => ?_
 replace hg := Fr.sub_trans hg hs
 replace hR := melted hR hm
 clear hs hm
 refine S.region rfl <| O.opE (.p rfl) (.litP (T := Rp.i64) (ys := [2]) Tryz.underlying25 F.elem3 (by decide) rfl rfl ⟨⟨rfl, by first | assumption | (constructor <;> omega)⟩, trivial⟩ (by decide)) ?_
 rintro _ _ ⟨a13, c13, rfl, rfl⟩
 refine O.op (.p rfl) (.build (cs := [_, _, _, _]) Tryz.underlying27 rfl rfl rfl rfl rfl) <| O.callB (.p rfl) rfl F.ok17 rfl rfl (bs := [OwnP Rp.i64 3 (.slice a13 1 c13) [2]]) (by repeat (first | exact zsn | (apply zsc; focus (repeat (first | exact zh | apply zt))))) (fun m hm hd => iPut_c (HeldRp.mk Arr.nil Arr.nil Arr.nil (hm.arr.right hd)) (heldB0 [2] (by decide))) ?_
 rintro v15 _ ⟨a15, c15, rfl, rfl⟩
 try simp only [zx1, zx2, zx3]
 rw [imgOut1, imgErr1]
 refine O.q 5 rfl <| O.nil <| S.seq <| S.frzA (by repeat (first | exact zh | apply zt)) fun g hs hm hz2 => ?_
 replace hg := Fr.sub_trans hg hs
 replace hR := melted hR hm
 try replace hz1 := hz1.mono hs
 clear hs hm
 refine S.region rfl <| O.opE (.p rfl) (.litP (T := Rp.i64) (ys := [2, 1]) Tryz.underlying25 F.elem3 (by decide) rfl rfl ⟨⟨rfl, by first | assumption | (constructor <;> omega)⟩, ⟨rfl, by first | assumption | (constructor <;> omega)⟩, trivial⟩ (by decide)) ?_
 rintro _ _ ⟨a19, c19, rfl, rfl⟩
 refine O.op (.p rfl) (.build (cs := [_, _, _, _]) Tryz.underlying27 rfl rfl rfl rfl rfl) <| O.callB (.p rfl) rfl F.ok17 rfl rfl (bs := [OwnP Rp.i64 3 (.slice a19 2 c19) [2, 1]]) (by repeat (first | exact zsn | (apply zsc; focus (repeat (first | exact zh | apply zt))))) (fun m hm hd => iPut_c (HeldRp.mk Arr.nil Arr.nil Arr.nil (hm.arr.right hd)) (heldB0 [2, 1] (by decide))) ?_
 rintro v21 _ ⟨a21, c21, rfl, rfl⟩
 try simp only [zx1, zx2, zx3]
 rw [imgErr2]
 refine O.q 5 rfl <| O.nil <| S.seq <| S.region rfl <| O.q 1 rfl <| O.op (.p rfl) (.eql rfl rfl) <| O.sT 25 rfl (by rfl) ?_
 refine O.q 2 rfl <| O.opE (.g rfl rfl) (.makeP (T := Rp.u8) (0 : UInt8) (m := 32) Tryz.underlying31 F.elem5 (by decide) rfl rfl rfl rfl rfl (by decide) (by decide)) ?_
 rintro v28 _ ⟨a28, c28, rfl, rfl⟩
 refine O.callB (.g rfl rfl) rfl F.ok19 rfl rfl (bs := [OwnP Rp.u8 5 (.slice a28 32 c28) (List.replicate 32 0)]) (by repeat (first | exact zsn | (apply zsc; focus (repeat (first | exact zh | apply zt))))) (fun m hm hd => SameBytes_c hz1.left (hm.arr.right hd)) ?_
 rintro v29 _ ⟨rfl, rfl⟩
 try simp only [zx1, zx2, zx3]
 refine O.sT 29 rfl (by rfl) ?_
 refine O.q 3 rfl <| O.op (.g rfl rfl) (.eql rfl rfl) <| O.sT 33 rfl (by rfl) ?_
 refine O.q 3 rfl <| O.op (.g rfl rfl) (.len rfl Tryz.underlying31 rfl) <| O.op (.g rfl rfl) (.eql rfl rfl) <| O.sT 38 rfl (by rfl) ?_
 refine O.q 3 rfl <| O.ia (.g rfl rfl) Tryz.underlying31 F.size5 rfl rfl (show _ = (((31) : Nat) : Int) by omega) (hz2) (h := fun p42 cs42 hp42 hr42 => ?_)
 cases hr42
 refine O.op (.g rfl rfl) (.loadAt F.flat5 rfl hp42 rfl) ?_
 refine O.op (.g rfl rfl) (.eql rfl rfl) <| O.sT 44 rfl (by rfl) ?_
 refine O.q 3 rfl <| O.ia (.g rfl rfl) Tryz.underlying31 F.size5 rfl rfl (show _ = (((39) : Nat) : Int) by omega) (hz2) (h := fun p48 cs48 hp48 hr48 => ?_)
 cases hr48
 refine O.op (.g rfl rfl) (.loadAt F.flat5 rfl hp48 rfl) ?_
 refine O.op (.g rfl rfl) (.eql rfl rfl) <| O.sT 50 rfl (by rfl) ?_
 refine O.q 3 rfl <| O.op (.g rfl rfl) (.eql rfl rfl) <| O.sT 54 rfl (by rfl) ?_
 refine O.q 2 rfl <| O.nil ?_
 exact S.rt Tryz.results15 rfl hR ⟨rfl, rfl⟩
end Go.Proofs.YtodhbhanmdfdeaaGreat
end
section
/- Texts of this proof. -/
open Go Go.Sp
set_option maxRecDepth 100000
attribute [local irreducible] obj Own OwnP
namespace Go.Proofs.YtodhbhanmdfdeaaGreat
theorem be_take (n : Int) (j : Nat) (h : j < 8) : (be n).take j ++ [beAt n (7 - j)] = (be n).take (j + 1) := by
 match j, h with
 | 0, _ | 1, _ | 2, _ | 3, _ | 4, _ | 5, _ | 6, _ | 7, _ => rfl
theorem be_take_len (n : Int) (j : Nat) (h : j ≤ 8) : ((be n).take j).length = j := by rw [List.length_take, be_length]; omega
theorem refNumber_c {r : Fr} (n : Int) : Con Tryz.prog 63 #[.int .i64 n] r [] (Ret fun v η => ∃ a c, v = .slice a 8 c ∧ η = [OwnP Rp.u8 5 v (be n)]) := by
 refine Con.of (n := 20) _ rfl Tryz.func63 rfl rfl rfl fun g hg R hR => ?_
 refine S.addNil (T := Rp.u8) (e := 5) ?_
 refine S.seq <| S.region rfl <| O.q 1 rfl <| O.nil <| S.seq <| S.region rfl <| O.q 1 rfl <| O.nil <| S.seq <| S.seq <| S.region rfl <| O.q 1 rfl <| O.nil <| S.block <| S.loopK3 (ι := Nat) (κ := Option Addr) (υ := Nat) (fun j a c => j ≤ 8) (fun j a c => [(4, .int .i64 ((7 : Int) - (j : Int))), (3, .slice a j c)]) [(0, _)] (fun j a c => [OwnP Rp.u8 5 (.slice a j c) ((be n).take j)]) (fun j a c => 8 - j) (0) (none) (0) (by simp) (.cons rfl (.cons rfl (.nil))) (.cons rfl (.nil)) rfl fun j a c hx ih => ?_
 have hm1 := meltRefl (g := g)
 refine S.seq <| S.seq <| S.region rfl <| O.q 1 rfl <| O.op (.p rfl) (.geq rfl rfl) <| O.nil ?_
 first | refine S.condD rfl (fun h6 => ?_) (fun h6 => ?_) | refine S.condB rfl (fun h6 => ?_) (fun h6 => ?_)
 ·have hj : j < 8 := by omega
  have hl := be_take_len n j (by omega)
  have hw : IntKind.u64.wrap (8 * (7 - (j : Int))) = 8 * (7 - (j : Int)) := by rw [wrap_u64_eq]; unfold u64; omega
  refine S.skip <| S.seq <| S.block <| S.region rfl <| O.q 2 rfl <| O.op (.p rfl) (.cvt Tryz.underlying3 Tryz.underlying195 rfl) <| O.q 1 rfl <| O.op (.p rfl) (.mul rfl rfl (IntWalk.i64_in _ (by omega))) <| O.op (.p rfl) (.cvt Tryz.underlying3 Tryz.underlying57 rfl) <| O.op (.p rfl) (.shr rfl rfl (by omega)) <| O.op (.p rfl) (.cvt Tryz.underlying195 Tryz.underlying5 rfl) <| O.opE (.p rfl) (.litP (T := Rp.u8) (ys := [beAt n (7 - j)]) Tryz.underlying31 F.elem5 (by decide) rfl rfl ⟨congrArg (fun v => [v]) (by simp only [byteV]; rw [shift_byte n (7 - j) (by omega) _ (by rw [wrap_u64_eq]; unfold u64; omega)]), trivial⟩ (by decide)) ?_
  rintro v17 _ ⟨a17, c17, rfl, rfl⟩
  refine O.frzA (by repeat (first | exact zh | apply zt)) fun g hs hm ha17 => ?_
  replace hg := Fr.sub_trans hg hs
  replace hR := melted hR hm
  replace hm1 := meltTrans hm1 hm
  clear hs hm
  refine O.opE (.p rfl) (.appendP (T := Rp.u8) pure_u8 Tryz.underlying31 F.elem5 (by decide) rfl rfl (by repeat (first | exact zh | apply zt)) (by first | assumption | exact Arr.mono hg (by assumption) | exact Arr.left (by assumption) | exact Arr.left (Arr.mono hg (by assumption))) (by first | omega | (simp; done) | (simp; omega) | decide) (by first | omega | (simp; done) | (simp; omega) | decide)) ?_
  rintro _ _ ⟨a18, c18, rfl, rfl⟩
  refine O.q 1 rfl <| O.nil <| S.inBlock <| S.region rfl <| O.q 1 rfl <| O.op (.p rfl) (.sub rfl rfl (IntWalk.i64_in _ (by omega))) <| O.q 1 rfl <| O.nil ?_
  rw [be_take n j hj, hl]
  refine S.slot 4 (v' := .int .i64 ((7 : Int) - ((j + 1 : Nat) : Int))) rfl (congrArg _ (by omega)) ?_
  exact S.melt hm1 (S.wk (ih (j + 1) (a18) (c18) (by omega) (by omega)))
 ·have hj : j = 8 := by omega
  subst hj
  refine S.exit rfl <| S.seq <| S.region rfl <| O.q 2 rfl <| O.nil <| S.ret Tryz.results63 rfl fun w hw => hR _ _ w ?_ hw
  exact ⟨a, c, rfl, rfl⟩
theorem refBytes_c {r : Fr} {va : Value} {xs : List UInt8} (ha : Arr Rp.u8 r va xs) (hl : xs.length ≤ 100000000000000) :
  Con Tryz.prog 65 #[va] r [] (Ret fun v η => ∃ a c, v = .slice a (bytesOf xs).length c ∧ η = [OwnP Rp.u8 5 v (bytesOf xs)]) := by
 refine Con.of (n := 8) _ rfl Tryz.func65 rfl rfl rfl fun g hg R hR => ?_
 have ha := ha.mono hg
 obtain ⟨a1, c1, rfl⟩ := ha.shape
 refine S.seq <| S.region rfl <| O.q 1 rfl <| O.nil <| S.seq <| S.region rfl <| O.q 1 rfl <| O.op (.p rfl) (.len rfl Tryz.underlying31 rfl) <| O.call0 (.p rfl) rfl F.ok63 rfl rfl (refNumber_c _) ?_
 rintro v5 _ ⟨a5, c5, rfl, rfl⟩
 try simp only [zx1, zx2, zx3]
 refine O.q 1 rfl <| O.opE (.p rfl) (.appendP (T := Rp.u8) pure_u8 Tryz.underlying31 F.elem5 (by decide) rfl rfl (by repeat (first | exact zh | apply zt)) (by first | assumption | exact Arr.mono hg (by assumption) | exact Arr.left (by assumption) | exact Arr.left (Arr.mono hg (by assumption))) (by first | omega | (simp; done) | (simp; omega) | decide) (by first | omega | (simp; done) | (simp; omega) | decide)) ?_
 rintro _ _ ⟨a7, c7, rfl, rfl⟩
 refine O.q 1 rfl <| O.nil <| S.ret Tryz.results65 rfl fun w hw => hR _ _ w ?_ hw
 exact ⟨a7, c7, by simp [bytesOf], by simp [bytesOf]⟩
theorem refJoin_c {r : Fr} {va : Value} {xss : List (List UInt8)} (ha : Arr (Rp.slice Rp.u8) r va xss) (hl : xss.flatten.length ≤ 140737488355328) :
  Con Tryz.prog 64 #[va] r [] (Ret fun v η => ∃ a c, v = .slice a xss.flatten.length c ∧ η = [OwnP Rp.u8 5 v xss.flatten]) := by
 refine Con.of (n := 18) _ rfl Tryz.func64 rfl rfl rfl fun g hg R hR => ?_
 have ha := ha.mono hg
 have hbd := ha.bound
 obtain ⟨a1, c1, rfl⟩ := ha.shape
 refine S.addNil (T := Rp.u8) (e := 5) ?_
 refine S.seq <| S.region rfl <| O.q 1 rfl <| O.nil <| S.seq <| S.region rfl <| O.q 1 rfl <| O.nil <| S.seq <| S.seq <| S.region rfl <| O.q 1 rfl <| O.nil <| S.block <| S.loopK4 (ι := Nat) (κ := Option Addr) (υ := Nat) (τ := Nat) (fun i a6 m6 c6 => i ≤ xss.length ∧ m6 = (xss.take i).flatten.length) (fun i a6 m6 c6 => [(4, .int .i64 (i : Int)), (3, .slice a6 m6 c6)]) [(0, _)] (fun i a6 m6 c6 => [OwnP Rp.u8 5 (.slice a6 m6 c6) (xss.take i).flatten]) (fun i a6 m6 c6 => xss.length - i) (0) (none) (0) (0) (by simp) (.cons rfl (.cons rfl (.nil))) (.cons rfl (.nil)) rfl fun i a6 m6 c6 hx ih => ?_
 have hm1 := meltRefl (g := g)
 obtain ⟨hx1, hs⟩ := hx
 refine S.seq <| S.seq <| S.region rfl <| O.q 2 rfl <| O.op (.p rfl) (.len rfl Tryz.underlying39 rfl) <| O.op (.p rfl) (.lss rfl rfl) <| O.nil ?_
 first | refine S.condD rfl (fun h8 => ?_) (fun h8 => ?_) | refine S.condB rfl (fun h8 => ?_) (fun h8 => ?_)
 ·have hi : i < xss.length := by omega
  have h1 := flat_len xss i hi
  have h2 := flat_le xss (i + 1)
  have h3 : (xss.take (i + 1)).flatten.length = (xss.take i).flatten.length + xss[i].length := by rw [h1, List.length_append]
  refine S.skip <| S.seq <| S.block <| S.region rfl <| O.q 3 rfl <| O.ia (.p rfl) Tryz.underlying39 F.size31 rfl rfl rfl (by first | assumption | exact Arr.mono hg (by assumption) | exact Arr.left (by assumption) | exact Arr.left (Arr.mono hg (by assumption))) (h := fun p14 cs14 hp14 hr14 => ?_)
  obtain ⟨v14, rfl, ha14⟩ := hr14
  obtain ⟨a14, c14, rfl⟩ := ha14.shape
  refine O.op (.p rfl) (.loadAt F.flat31 rfl hp14 rfl) ?_
  refine O.opE (.p rfl) (.appendP (T := Rp.u8) pure_u8 Tryz.underlying31 F.elem5 (by decide) rfl rfl (by repeat (first | exact zh | apply zt)) (by first | assumption | exact Arr.mono hg (by assumption) | exact Arr.left (by assumption) | exact Arr.left (Arr.mono hg (by assumption))) (by first | omega | (simp; done) | (simp; omega) | decide) (by first | omega | (simp; done) | (simp; omega) | decide)) ?_
  rintro _ _ ⟨a16, c16, rfl, rfl⟩
  refine O.q 1 rfl <| O.nil <| S.inBlock <| S.region rfl <| O.q 1 rfl <| O.op (.p rfl) (.add rfl rfl (IntWalk.i64_in _ (by omega))) <| O.q 1 rfl <| O.nil ?_
  rw [← h1]
  exact S.wk (ih (i + 1) (a16) ((xss.take i).flatten.length + xss[i].length) (c16) (by omega) (by omega))
 ·have hi : i = xss.length := by omega
  subst hi
  rw [List.take_length] at hs
  subst hs
  refine S.exit rfl <| S.seq <| S.region rfl <| O.q 2 rfl <| O.nil <| S.ret Tryz.results64 rfl fun w hw => hR _ _ w ?_ hw
  exact ⟨a6, c6, rfl, by rw [List.take_length]⟩
end Go.Proofs.YtodhbhanmdfdeaaGreat
end
end
section
/- Texts of this proof. -/
open Go Go.Sp
set_option maxRecDepth 100000
attribute [local irreducible] obj Own OwnP
namespace Go.Proofs.YtodhbhanmdfdeaaGreat
theorem r15shape_c {r : Fr} {cs : List Value} {x : RootT} (h : RootRp.rel r cs x) : Con Tryz.prog 241 #[.agg cs.toArray] r [] (Ret fun v η => v = .bool (rootShape x) ∧ η = []) := by
 obtain ⟨xa3, xa4, xc3, xc4, rfl, k0, k1, k2, k3, k4⟩ := RootRp.sh h
 refine Con.of (n := 37) _ rfl Tryz.func241 rfl rfl rfl fun g hg R hR => ?_
 refine S.seq <| S.region rfl <| O.opE (.p rfl) (.box (cs := [_, _, _, _, _]) rfl rfl) ?_
 rintro _ _ ⟨b1, rfl, rfl⟩
 refine O.q 1 rfl <| O.nil <| S.seq <| S.region rfl <| O.op (.p rfl) (.fieldObj F.fld52x0 rfl) <| O.op (.p rfl) (.lo F.flat3) ?_
 refine O.op (.p rfl) (.geq rfl rfl) <| O.q 1 rfl ?_
 first | refine O.caseD 6 rfl (fun h6 => ?_) (fun h6 => ?_) | refine O.caseB 6 rfl (fun h6 => ?_) (fun h6 => ?_)
 ·refine O.op (.g rfl rfl) (.fieldObj F.fld52x0 rfl) <| O.op (.g rfl rfl) (.lo F.flat3) ?_
  refine O.op (.g rfl rfl) (.leq rfl rfl) <| O.q 2 rfl ?_
  first | refine O.caseD 11 rfl (fun h11 => ?_) (fun h11 => ?_) | refine O.caseB 11 rfl (fun h11 => ?_) (fun h11 => ?_)
  ·refine O.op (.g rfl rfl) (.fieldObj F.fld52x1 rfl) <| O.op (.g rfl rfl) (.lo F.flat3) ?_
   refine O.op (.g rfl rfl) (.geq rfl rfl) <| O.q 2 rfl ?_
   first | refine O.caseD 16 rfl (fun h16 => ?_) (fun h16 => ?_) | refine O.caseB 16 rfl (fun h16 => ?_) (fun h16 => ?_)
   ·refine O.op (.g rfl rfl) (.fieldObj F.fld52x1 rfl) <| O.op (.g rfl rfl) (.lo F.flat3) ?_
    refine O.op (.g rfl rfl) (.leq rfl rfl) <| O.q 2 rfl ?_
    first | refine O.caseD 21 rfl (fun h21 => ?_) (fun h21 => ?_) | refine O.caseB 21 rfl (fun h21 => ?_) (fun h21 => ?_)
    ·refine O.op (.g rfl rfl) (.fieldObj F.fld52x2 rfl) <| O.op (.g rfl rfl) (.lo F.flat3) ?_
     refine O.op (.g rfl rfl) (.geq rfl rfl) <| O.q 2 rfl ?_
     first | refine O.caseD 26 rfl (fun h26 => ?_) (fun h26 => ?_) | refine O.caseB 26 rfl (fun h26 => ?_) (fun h26 => ?_)
     ·refine O.op (.g rfl rfl) (.fieldObj F.fld52x2 rfl) <| O.op (.g rfl rfl) (.lo F.flat3) ?_
      refine O.op (.g rfl rfl) (.leq rfl rfl) <| O.q 2 rfl ?_
      first | refine O.caseD 31 rfl (fun h31 => ?_) (fun h31 => ?_) | refine O.caseB 31 rfl (fun h31 => ?_) (fun h31 => ?_)
      ·refine O.op (.g rfl rfl) (.fieldObj F.fld52x3 rfl) <| O.op (.g rfl rfl) (.lo F.flat31) ?_
       refine O.op (.g rfl rfl) (.len rfl Tryz.underlying31 rfl) <| O.op (.g rfl rfl) (.eql rfl rfl) <| O.q 2 rfl <| O.nil <| S.ret Tryz.results241 rfl fun w hw => Holds.end_ hR hw ?_
       first | exact ⟨_, ⟨congrArg _ (decide_eq_false (by omega)).symm, rfl⟩, by repeat (first | exact zpa | exact zpn | (apply zpc; focus (repeat (first | exact zh | apply zt))) | apply zps)⟩ | exact ⟨_, ⟨congrArg _ (decide_eq_decide.2 (by omega)), rfl⟩, by repeat (first | exact zpa | exact zpn | (apply zpc; focus (repeat (first | exact zh | apply zt))) | apply zps)⟩
      ·refine O.q 6 rfl <| O.nil <| S.ret Tryz.results241 rfl fun w hw => Holds.end_ hR hw ?_
       first | exact ⟨_, ⟨congrArg _ (decide_eq_false (by omega)).symm, rfl⟩, by repeat (first | exact zpa | exact zpn | (apply zpc; focus (repeat (first | exact zh | apply zt))) | apply zps)⟩ | exact ⟨_, ⟨congrArg _ (decide_eq_decide.2 (by omega)), rfl⟩, by repeat (first | exact zpa | exact zpn | (apply zpc; focus (repeat (first | exact zh | apply zt))) | apply zps)⟩
     ·refine O.q 11 rfl <| O.nil <| S.ret Tryz.results241 rfl fun w hw => Holds.end_ hR hw ?_
      first | exact ⟨_, ⟨congrArg _ (decide_eq_false (by omega)).symm, rfl⟩, by repeat (first | exact zpa | exact zpn | (apply zpc; focus (repeat (first | exact zh | apply zt))) | apply zps)⟩ | exact ⟨_, ⟨congrArg _ (decide_eq_decide.2 (by omega)), rfl⟩, by repeat (first | exact zpa | exact zpn | (apply zpc; focus (repeat (first | exact zh | apply zt))) | apply zps)⟩
    ·refine O.q 16 rfl <| O.nil <| S.ret Tryz.results241 rfl fun w hw => Holds.end_ hR hw ?_
     first | exact ⟨_, ⟨congrArg _ (decide_eq_false (by omega)).symm, rfl⟩, by repeat (first | exact zpa | exact zpn | (apply zpc; focus (repeat (first | exact zh | apply zt))) | apply zps)⟩ | exact ⟨_, ⟨congrArg _ (decide_eq_decide.2 (by omega)), rfl⟩, by repeat (first | exact zpa | exact zpn | (apply zpc; focus (repeat (first | exact zh | apply zt))) | apply zps)⟩
   ·refine O.q 21 rfl <| O.nil <| S.ret Tryz.results241 rfl fun w hw => Holds.end_ hR hw ?_
    first | exact ⟨_, ⟨congrArg _ (decide_eq_false (by omega)).symm, rfl⟩, by repeat (first | exact zpa | exact zpn | (apply zpc; focus (repeat (first | exact zh | apply zt))) | apply zps)⟩ | exact ⟨_, ⟨congrArg _ (decide_eq_decide.2 (by omega)), rfl⟩, by repeat (first | exact zpa | exact zpn | (apply zpc; focus (repeat (first | exact zh | apply zt))) | apply zps)⟩
  ·refine O.q 26 rfl <| O.nil <| S.ret Tryz.results241 rfl fun w hw => Holds.end_ hR hw ?_
   first | exact ⟨_, ⟨congrArg _ (decide_eq_false (by omega)).symm, rfl⟩, by repeat (first | exact zpa | exact zpn | (apply zpc; focus (repeat (first | exact zh | apply zt))) | apply zps)⟩ | exact ⟨_, ⟨congrArg _ (decide_eq_decide.2 (by omega)), rfl⟩, by repeat (first | exact zpa | exact zpn | (apply zpc; focus (repeat (first | exact zh | apply zt))) | apply zps)⟩
 ·refine O.q 31 rfl <| O.nil <| S.ret Tryz.results241 rfl fun w hw => Holds.end_ hR hw ?_
  first | exact ⟨_, ⟨congrArg _ (decide_eq_false (by omega)).symm, rfl⟩, by repeat (first | exact zpa | exact zpn | (apply zpc; focus (repeat (first | exact zh | apply zt))) | apply zps)⟩ | exact ⟨_, ⟨congrArg _ (decide_eq_decide.2 (by omega)), rfl⟩, by repeat (first | exact zpa | exact zpn | (apply zpc; focus (repeat (first | exact zh | apply zt))) | apply zps)⟩
theorem r15right_c {r : Fr} {cs : List Value} {x : RootT} (h : RootRp.rel r cs x) : Con Tryz.prog 153 #[.agg cs.toArray] r [] (Ret fun v η => v = .bool (rootOk x) ∧ η = []) := by
 obtain ⟨xa3, xa4, xc3, xc4, rfl, k0, k1, k2, k3, k4⟩ := RootRp.sh h
 refine Con.of (n := 11) _ rfl Tryz.func153 rfl rfl rfl fun g hg R hR => ?_
 have h := h.mono hg
 refine S.seq <| S.region rfl <| O.opE (.p rfl) (.box (cs := [_, _, _, _, _]) rfl rfl) ?_
 rintro _ _ ⟨b1, rfl, rfl⟩
 refine O.q 1 rfl <| O.nil <| S.seq <| S.frzO (by repeat (first | exact zh | apply zt)) fun g hs hm hb1 => ?_
 replace hg := Fr.sub_trans hg hs
 replace hR := melted hR hm
 try replace h := h.mono hs
 clear hs hm
 cases e : rootShape x with
 | false =>
  refine S.region rfl <| O.op (.p rfl) (.loadAgg Tryz.isAgg52 (by kernel_rfl) rfl hb1) ?_
  refine O.call0 (.p rfl) rfl F.ok241 rfl rfl ((r15shape_c h)) ?_
  rintro v4 _ ⟨rfl, rfl⟩
  try simp only [zx1, zx2, zx3]
  refine O.sF 4 rfl (by exact e) ?_
  refine O.q 7 rfl <| O.nil ?_
  exact S.rt Tryz.results153 rfl hR ⟨by simp [rootOk, e], rfl⟩
 | true =>
  refine S.region rfl <| O.op (.p rfl) (.loadAgg Tryz.isAgg52 (by kernel_rfl) rfl hb1) ?_
  refine O.call0 (.p rfl) rfl F.ok241 rfl rfl ((r15shape_c h)) ?_
  rintro v4 _ ⟨rfl, rfl⟩
  try simp only [zx1, zx2, zx3]
  refine O.sT 4 rfl (by exact e) ?_
  refine O.q 1 rfl <| O.op (.g rfl rfl) (.fieldAddr F.fld52x4 rfl) <| O.op (.g rfl rfl) (.loadAt F.flat31 rfl (hb1.drop 4) rfl) ?_
  refine O.op (.g rfl rfl) (.len rfl Tryz.underlying31 rfl) <| O.op (.g rfl rfl) (.eql rfl rfl) <| O.q 2 rfl <| O.nil ?_
  exact S.rt Tryz.results153 rfl hR ⟨congrArg _ (by rw [rootOk, e, Bool.true_and]; exact decide_eq_decide.2 (by omega)), rfl⟩
theorem r15text_c {r : Fr} {cs : List Value} {x : RootT} (h : RootRp.rel r cs x) (hs : rootShape x = true) :
  Con Tryz.prog 154 #[.agg cs.toArray] r [] (Ret fun v η => ∃ a c, v = .slice a (rootText x).length c ∧ η = [OwnP Rp.u8 5 (.slice a (rootText x).length c) (rootText x)]) := by
 obtain ⟨xa3, xa4, xc3, xc4, rfl, k0, k1, k2, k3, k4⟩ := RootRp.sh h
 have hl := rootText_length hs
 have hfl : [[2], be x.1, be x.2.1, be x.2.2.1, x.2.2.2.1].flatten = rootText x := by simp [rootText]
 refine Con.of (n := 20) _ rfl Tryz.func154 rfl rfl rfl fun g hg R hR => ?_
 have h := h.mono hg
 have k3 := k3.mono hg
 refine S.seq <| S.region rfl <| O.opE (.p rfl) (.box (cs := [_, _, _, _, _]) rfl rfl) ?_
 rintro _ _ ⟨b1, rfl, rfl⟩
 refine O.q 1 rfl <| O.nil <| S.seq <| S.seq <| S.frzO (by repeat (first | exact zh | apply zt)) fun g hs hm hb1 => ?_
 replace hg := Fr.sub_trans hg hs
 replace hR := melted hR hm
 try replace h := h.mono hs
 try replace k3 := k3.mono hs
 clear hs hm
 refine S.region rfl <| O.op (.p rfl) (.loadAgg Tryz.isAgg52 (by kernel_rfl) rfl hb1) ?_
 refine O.call0 (.p rfl) rfl F.ok241 rfl rfl ((r15shape_c h)) ?_
 rintro v4 _ ⟨rfl, rfl⟩
 try simp only [zx1, zx2, zx3]
 refine O.sT 4 rfl (by exact hs) ?_
 refine O.op (.p rfl) (.not rfl) <| O.nil <| S.condF rfl <| S.skip <| S.seq <| S.regionJ (L := [1, 2, 4, 5, 7, 8, 10, 11, 0, 3, 6, 9, 12, 13, 14]) (fun (s : Option Addr × Nat) => [(2, .slice s.1 (rootText x).length s.2)]) [] (fun (s : Option Addr × Nat) => [OwnP Rp.u8 5 (.slice s.1 (rootText x).length s.2) (rootText x)]) (.nil) F.mixed (by kernel_rfl) (fun kk key => ?_) (fun s => ?_)
 ·refine .quiet (.p rfl) rfl (fun _ => .fieldAddr F.fld52x0 rfl) <| .quiet (.p rfl) rfl (fun _ => .loadAt F.flat3 rfl hb1 rfl) ?_
  refine .quiet (.p rfl) rfl (fun _ => .fieldAddr F.fld52x1 rfl) <| .quiet (.p rfl) rfl (fun _ => .loadAt F.flat3 rfl (hb1.drop 1) rfl) ?_
  refine .quiet (.p rfl) rfl (fun _ => .fieldAddr F.fld52x2 rfl) <| .quiet (.p rfl) rfl (fun _ => .loadAt F.flat3 rfl (hb1.drop 2) rfl) ?_
  refine .quiet (.p rfl) rfl (fun _ => .fieldAddr F.fld52x3 rfl) <| .quiet (.p rfl) rfl (fun _ => .loadAt F.flat31 rfl (hb1.drop 3) rfl) ?_
  refine OD.alt2 0 3 [3, 6, 9, 12, 13, 14] [0, 6, 9, 12, 13, 14] (by kernel_rfl) rfl rfl ?_ ?_
  ·refine ODt.litP (T := Rp.u8) (ys := [2]) (.p rfl) (by kernel_rfl) Tryz.underlying31 F.elem5 (by decide) rfl rfl ⟨rfl, trivial⟩ (by decide) (fun a6 c6 => ?_)
   refine OD.call0 (.p rfl) (by kernel_rfl) rfl F.ok63 rfl rfl (refNumber_c _) ?_
   rintro v9 _ ⟨a9, c9, rfl, rfl⟩
   try simp only [zx1, zx2, zx3]
   refine OD.call0 (.p rfl) (by kernel_rfl) rfl F.ok63 rfl rfl (refNumber_c _) ?_
   rintro v12 _ ⟨a12, c12, rfl, rfl⟩
   try simp only [zx1, zx2, zx3]
   refine OD.call0 (.p rfl) (by kernel_rfl) rfl F.ok63 rfl rfl (refNumber_c _) ?_
   rintro v15 _ ⟨a15, c15, rfl, rfl⟩
   try simp only [zx1, zx2, zx3]
   refine OD.litP (T := Rp.val) (ys := [_, _, _, _, _]) (.p rfl) (by kernel_rfl) Tryz.underlying39 F.elem31 (by decide) rfl rfl ⟨⟨rfl, rfl⟩, ⟨rfl, rfl⟩, ⟨rfl, rfl⟩, ⟨rfl, rfl⟩, ⟨rfl, rfl⟩, trivial⟩ (by decide) (fun a18 c18 => ?_)
   refine OD.callB (.p rfl) (by kernel_rfl) rfl F.ok64 rfl rfl (bs := [OwnP Rp.val 31 (.slice a18 5 c18) [.slice a6 1 c6, .slice a9 8 c9, .slice a12 8 c12, .slice a15 8 c15, .slice xa3 x.2.2.2.1.length xc3], OwnP Rp.u8 5 (.slice a6 1 c6) [2], OwnP Rp.u8 5 (.slice a9 8 c9) (be x.1), OwnP Rp.u8 5 (.slice a12 8 c12) (be x.2.1), OwnP Rp.u8 5 (.slice a15 8 c15) (be x.2.2.1)]) (by repeat (first | exact zsn | (apply zsc; focus (repeat (first | exact zh | apply zt))))) (fun m hm hd => refJoin_c (xss := [[2], be x.1, be x.2.1, be x.2.2.1, x.2.2.2.1]) ((hm.arr.right hd).rows ⟨hm.tail.arr.right hd, hm.tail.tail.arr.right hd, hm.tail.tail.tail.arr.right hd, hm.tail.tail.tail.tail.arr.right hd, k3.left, trivial⟩) (by rw [hfl]; omega)) ?_
   rintro v19 _ ⟨a19, c19, rfl, rfl⟩
   try simp only [zx1, zx2, zx3]
   rw [hfl]
   refine OD.q 1 rfl <| ODx.nil <| S.pk ?_ (S.weaken (Sub.app (.cons rfl (.nil)) (.nil)) (key (a19, c19)))
   try dsimp only
   repeat (first | exact zpa | exact zpn | (apply zpc; focus (repeat (first | exact zh | apply zt))) | apply zps)
  ·refine ODt.call0 (.p rfl) (by kernel_rfl) rfl F.ok63 rfl rfl (refNumber_c _) ?_
   rintro v9 _ ⟨a9, c9, rfl, rfl⟩
   try simp only [zx1, zx2, zx3]
   refine OD.alt2 0 6 [6, 9, 12, 13, 14] [0, 9, 12, 13, 14] (by kernel_rfl) rfl rfl ?_ ?_
   ·refine ODt.litP (T := Rp.u8) (ys := [2]) (.p rfl) (by kernel_rfl) Tryz.underlying31 F.elem5 (by decide) rfl rfl ⟨rfl, trivial⟩ (by decide) (fun a6 c6 => ?_)
    refine OD.call0 (.p rfl) (by kernel_rfl) rfl F.ok63 rfl rfl (refNumber_c _) ?_
    rintro v12 _ ⟨a12, c12, rfl, rfl⟩
    try simp only [zx1, zx2, zx3]
    refine OD.call0 (.p rfl) (by kernel_rfl) rfl F.ok63 rfl rfl (refNumber_c _) ?_
    rintro v15 _ ⟨a15, c15, rfl, rfl⟩
    try simp only [zx1, zx2, zx3]
    refine OD.litP (T := Rp.val) (ys := [_, _, _, _, _]) (.p rfl) (by kernel_rfl) Tryz.underlying39 F.elem31 (by decide) rfl rfl ⟨⟨rfl, rfl⟩, ⟨rfl, rfl⟩, ⟨rfl, rfl⟩, ⟨rfl, rfl⟩, ⟨rfl, rfl⟩, trivial⟩ (by decide) (fun a18 c18 => ?_)
    refine OD.callB (.p rfl) (by kernel_rfl) rfl F.ok64 rfl rfl (bs := [OwnP Rp.val 31 (.slice a18 5 c18) [.slice a6 1 c6, .slice a9 8 c9, .slice a12 8 c12, .slice a15 8 c15, .slice xa3 x.2.2.2.1.length xc3], OwnP Rp.u8 5 (.slice a6 1 c6) [2], OwnP Rp.u8 5 (.slice a9 8 c9) (be x.1), OwnP Rp.u8 5 (.slice a12 8 c12) (be x.2.1), OwnP Rp.u8 5 (.slice a15 8 c15) (be x.2.2.1)]) (by repeat (first | exact zsn | (apply zsc; focus (repeat (first | exact zh | apply zt))))) (fun m hm hd => refJoin_c (xss := [[2], be x.1, be x.2.1, be x.2.2.1, x.2.2.2.1]) ((hm.arr.right hd).rows ⟨hm.tail.arr.right hd, hm.tail.tail.arr.right hd, hm.tail.tail.tail.arr.right hd, hm.tail.tail.tail.tail.arr.right hd, k3.left, trivial⟩) (by rw [hfl]; omega)) ?_
    rintro v19 _ ⟨a19, c19, rfl, rfl⟩
    try simp only [zx1, zx2, zx3]
    rw [hfl]
    refine OD.q 1 rfl <| ODx.nil <| S.pk ?_ (S.weaken (Sub.app (.cons rfl (.nil)) (.nil)) (key (a19, c19)))
    try dsimp only
    repeat (first | exact zpa | exact zpn | (apply zpc; focus (repeat (first | exact zh | apply zt))) | apply zps)
   ·refine ODt.call0 (.p rfl) (by kernel_rfl) rfl F.ok63 rfl rfl (refNumber_c _) ?_
    rintro v12 _ ⟨a12, c12, rfl, rfl⟩
    try simp only [zx1, zx2, zx3]
    refine OD.alt2 0 9 [9, 12, 13, 14] [0, 12, 13, 14] (by kernel_rfl) rfl rfl ?_ ?_
    ·refine ODt.litP (T := Rp.u8) (ys := [2]) (.p rfl) (by kernel_rfl) Tryz.underlying31 F.elem5 (by decide) rfl rfl ⟨rfl, trivial⟩ (by decide) (fun a6 c6 => ?_)
     refine OD.call0 (.p rfl) (by kernel_rfl) rfl F.ok63 rfl rfl (refNumber_c _) ?_
     rintro v15 _ ⟨a15, c15, rfl, rfl⟩
     try simp only [zx1, zx2, zx3]
     refine OD.litP (T := Rp.val) (ys := [_, _, _, _, _]) (.p rfl) (by kernel_rfl) Tryz.underlying39 F.elem31 (by decide) rfl rfl ⟨⟨rfl, rfl⟩, ⟨rfl, rfl⟩, ⟨rfl, rfl⟩, ⟨rfl, rfl⟩, ⟨rfl, rfl⟩, trivial⟩ (by decide) (fun a18 c18 => ?_)
     refine OD.callB (.p rfl) (by kernel_rfl) rfl F.ok64 rfl rfl (bs := [OwnP Rp.val 31 (.slice a18 5 c18) [.slice a6 1 c6, .slice a9 8 c9, .slice a12 8 c12, .slice a15 8 c15, .slice xa3 x.2.2.2.1.length xc3], OwnP Rp.u8 5 (.slice a6 1 c6) [2], OwnP Rp.u8 5 (.slice a9 8 c9) (be x.1), OwnP Rp.u8 5 (.slice a12 8 c12) (be x.2.1), OwnP Rp.u8 5 (.slice a15 8 c15) (be x.2.2.1)]) (by repeat (first | exact zsn | (apply zsc; focus (repeat (first | exact zh | apply zt))))) (fun m hm hd => refJoin_c (xss := [[2], be x.1, be x.2.1, be x.2.2.1, x.2.2.2.1]) ((hm.arr.right hd).rows ⟨hm.tail.arr.right hd, hm.tail.tail.arr.right hd, hm.tail.tail.tail.arr.right hd, hm.tail.tail.tail.tail.arr.right hd, k3.left, trivial⟩) (by rw [hfl]; omega)) ?_
     rintro v19 _ ⟨a19, c19, rfl, rfl⟩
     try simp only [zx1, zx2, zx3]
     rw [hfl]
     refine OD.q 1 rfl <| ODx.nil <| S.pk ?_ (S.weaken (Sub.app (.cons rfl (.nil)) (.nil)) (key (a19, c19)))
     try dsimp only
     repeat (first | exact zpa | exact zpn | (apply zpc; focus (repeat (first | exact zh | apply zt))) | apply zps)
    ·refine ODt.call0 (.p rfl) (by kernel_rfl) rfl F.ok63 rfl rfl (refNumber_c _) ?_
     rintro v15 _ ⟨a15, c15, rfl, rfl⟩
     try simp only [zx1, zx2, zx3]
     refine OD.litP (T := Rp.u8) (ys := [2]) (.p rfl) (by kernel_rfl) Tryz.underlying31 F.elem5 (by decide) rfl rfl ⟨rfl, trivial⟩ (by decide) (fun a6 c6 => ?_)
     refine OD.litP (T := Rp.val) (ys := [_, _, _, _, _]) (.p rfl) (by kernel_rfl) Tryz.underlying39 F.elem31 (by decide) rfl rfl ⟨⟨rfl, rfl⟩, ⟨rfl, rfl⟩, ⟨rfl, rfl⟩, ⟨rfl, rfl⟩, ⟨rfl, rfl⟩, trivial⟩ (by decide) (fun a18 c18 => ?_)
     refine OD.callB (.p rfl) (by kernel_rfl) rfl F.ok64 rfl rfl (bs := [OwnP Rp.val 31 (.slice a18 5 c18) [.slice a6 1 c6, .slice a9 8 c9, .slice a12 8 c12, .slice a15 8 c15, .slice xa3 x.2.2.2.1.length xc3], OwnP Rp.u8 5 (.slice a6 1 c6) [2], OwnP Rp.u8 5 (.slice a9 8 c9) (be x.1), OwnP Rp.u8 5 (.slice a12 8 c12) (be x.2.1), OwnP Rp.u8 5 (.slice a15 8 c15) (be x.2.2.1)]) (by repeat (first | exact zsn | (apply zsc; focus (repeat (first | exact zh | apply zt))))) (fun m hm hd => refJoin_c (xss := [[2], be x.1, be x.2.1, be x.2.2.1, x.2.2.2.1]) ((hm.arr.right hd).rows ⟨hm.tail.arr.right hd, hm.tail.tail.arr.right hd, hm.tail.tail.tail.arr.right hd, hm.tail.tail.tail.tail.arr.right hd, k3.left, trivial⟩) (by rw [hfl]; omega)) ?_
     rintro v19 _ ⟨a19, c19, rfl, rfl⟩
     try simp only [zx1, zx2, zx3]
     rw [hfl]
     refine OD.q 1 rfl <| ODx.nil <| S.pk ?_ (S.weaken (Sub.app (.cons rfl (.nil)) (.nil)) (key (a19, c19)))
     try dsimp only
     repeat (first | exact zpa | exact zpn | (apply zpc; focus (repeat (first | exact zh | apply zt))) | apply zps)
 exact S.rt Tryz.results154 rfl hR ⟨s.1, s.2, rfl, rfl⟩
theorem r15put_c {r : Fr} {cs : List Value} {x : RootT} (h : RootRp.rel r cs x) :
  Con Tryz.prog 66 #[.agg cs.toArray] r [] (Ret fun v η => ∃ a c, v = .tuple #[.slice a (rootOut x).length c, .int .i64 (rootErr x)] ∧ η = [OwnP Rp.u8 5 (.slice a (rootOut x).length c) (rootOut x)]) := by
 obtain ⟨xa3, xa4, xc3, xc4, rfl, k0, k1, k2, k3, k4⟩ := RootRp.sh h
 refine Con.of (n := 12) _ rfl Tryz.func66 rfl rfl rfl fun g hg R hR => ?_
 have h := h.mono hg
 have k4 := k4.mono hg
 refine S.seq <| S.region rfl <| O.opE (.p rfl) (.box (cs := [_, _, _, _, _]) rfl rfl) ?_
 rintro _ _ ⟨b1, rfl, rfl⟩
 refine O.q 2 rfl <| O.nil <| S.seq <| S.seq <| S.frzO (by repeat (first | exact zh | apply zt)) fun g hs hm hb1 => ?_
 replace hg := Fr.sub_trans hg hs
 replace hR := melted hR hm
 try replace h := h.mono hs
 try replace k4 := k4.mono hs
 clear hs hm
 cases e : rootOk x with
 | false =>
  have e1 : rootOut x = [] := by simp [rootOut, e]
  have e2 : rootErr x = 4 := by simp [rootErr, e]
  rw [e1, e2] at hR
  refine S.region rfl <| O.op (.p rfl) (.loadAgg Tryz.isAgg52 (by kernel_rfl) rfl hb1) ?_
  refine O.call0 (.p rfl) rfl F.ok153 rfl rfl ((r15right_c h)) ?_
  rintro v5 _ ⟨rfl, rfl⟩
  try simp only [zx1, zx2, zx3]
  refine O.sF 5 rfl (by exact e) ?_
  refine O.op (.p rfl) (.not rfl) <| O.nil <| S.condT rfl <| S.seq <| S.region rfl <| O.q 2 rfl <| O.nil <| S.addNil (T := Rp.u8) (e := 5) ?_
  refine S.ret2 Tryz.results66 rfl rfl fun w hw => Holds.end_ hR hw ?_
  exact pk ⟨none, 0, rfl, rfl⟩
 | true =>
  have e1 : rootOut x = rootText x ++ x.2.2.2.2.1 := by simp [rootOut, e, rootB]
  have e2 : rootErr x = 0 := by simp [rootErr, e]
  rw [e1, e2, List.length_append] at hR
  have hs := (rootOk_iff.1 e).1
  have hl := rootText_length hs
  have hl2 := (rootOk_iff.1 e).2
  refine S.region rfl <| O.op (.p rfl) (.loadAgg Tryz.isAgg52 (by kernel_rfl) rfl hb1) ?_
  refine O.call0 (.p rfl) rfl F.ok153 rfl rfl ((r15right_c h)) ?_
  rintro v5 _ ⟨rfl, rfl⟩
  try simp only [zx1, zx2, zx3]
  refine O.sT 5 rfl (by exact e) ?_
  refine O.op (.p rfl) (.not rfl) <| O.nil <| S.condF rfl <| S.skip <| S.seq <| S.regionD (L := [0, 2, 3, 1, 4, 5, 6]) F.mixed (by kernel_rfl) <| .quiet (.p rfl) rfl (fun _ => .loadAgg Tryz.isAgg52 (by kernel_rfl) rfl hb1) ?_
  refine .quiet (.p rfl) rfl (fun _ => .fieldAddr F.fld52x4 rfl) <| .quiet (.p rfl) rfl (fun _ => .loadAt F.flat31 rfl (hb1.drop 4) rfl) ?_
  refine OD.call0 (.p rfl) (by kernel_rfl) rfl F.ok154 rfl rfl ((r15text_c h hs)) ?_
  rintro v8 _ ⟨a8, c8, rfl, rfl⟩
  try simp only [zx1, zx2, zx3]
  refine OD.appendP (.p rfl) (by kernel_rfl) (T := Rp.u8) pure_u8 Tryz.underlying31 F.elem5 (by decide) rfl rfl (by repeat (first | exact zh | apply zt)) (by first | assumption | exact Arr.mono hg (by assumption) | exact Arr.left (by assumption) | exact Arr.left (Arr.mono hg (by assumption))) (by first | omega | (simp; done) | (simp; omega) | decide) (by first | omega | (simp; done) | (simp; omega) | decide) (fun a11 c11 => ?_)
  refine OD.q 2 rfl <| ODx.nil <| S.ret2 Tryz.results66 rfl rfl fun w hw => Holds.end_ hR hw ?_
  exact pk ⟨a11, c11, rfl, rfl⟩
end Go.Proofs.YtodhbhanmdfdeaaGreat
end
