/- Texts of this proof, one behind the other. -/
import Derived.Test.YtodhbhanmdfdeaaGreatQFc
import Derived.Test.YtodhbhanmdfdeaaGreatQKit5
import Derived.Test.YtodhbhanmdfdeaaGreatQSpAuto
import Derived.Test.YtodhbhanmdfdeaaGreatQKit2
section
/- Texts of this proof. -/
open Go Go.Sp
set_option maxRecDepth 100000
attribute [local irreducible] obj Own OwnP
namespace Go.Proofs.YtodhbhanmdfdeaaGreat
def bagB (u : Value) : List Value := [.slice none 0 0, .slice none 0 0, .slice none 0 0, .slice none 0 0, .slice none 0 0, u, .slice none 0 0, .slice none 0 0, .slice none 0 0, .slice none 0 0, .slice none 0 0, .slice none 0 0, .slice none 0 0, .slice none 0 0, .slice none 0 0, .slice none 0 0, .slice none 0 0, .slice none 0 0, .slice none 0 0, .slice none 0 0, .slice none 0 0, .slice none 0 0, .slice none 0 0, .slice none 0 0]
theorem putBytes_c {r : Fr} {b : Nat} {a a1 : Option Addr} {c m1 c1 : Nat} {ws : List Value} (hb : ws.length ≤ 1000000000) :
  Con Tryz.prog 76 #[.pointer (some ⟨b, 0, none⟩), .slice a1 m1 c1] r [obj b 122 (bagB (.slice a ws.length c)), OwnP Rp.val 31 (.slice a ws.length c) ws]
   (Ret fun v η => ∃ a' c', v = .tuple #[] ∧ η = [obj b 122 (bagB (.slice a' (ws.length + 1) c')), OwnP Rp.val 31 (.slice a' (ws.length + 1) c') (ws ++ [.slice a1 m1 c1])]) := by
 refine Con.of (n := 14) _ rfl Tryz.func76 rfl rfl rfl fun g hg R hR => ?_
 unfold bagB
 refine S.region rfl <| O.q 2 rfl <| O.op (.p rfl) (.nilCheck rfl) <| O.op (.p rfl) (.fieldObj F.fld122x5 rfl) <| O.op (.p rfl) (.lo F.flat39) ?_
 refine O.q 1 rfl <| O.opE (.p rfl) (.litP (T := Rp.val) (ys := [_]) Tryz.underlying39 F.elem31 (by decide) rfl rfl ⟨⟨rfl, rfl⟩, trivial⟩ (by decide)) ?_
 rintro _ _ ⟨a10, c10, rfl, rfl⟩
 refine O.opE (.p rfl) (.appendO (T := Rp.val) Tryz.underlying39 F.elem31 (by decide) rfl rfl (by repeat (first | exact zh | apply zt)) (by repeat (first | exact zh | apply zt)) (by first | omega | (simp; done) | (simp; omega) | decide) (by first | omega | (simp; done) | (simp; omega) | decide)) ?_
 rintro _ _ ⟨a11, c11, rfl, rfl⟩
 refine O.op (.p rfl) (.nilCheck rfl) <| O.op (.p rfl) (.fieldObj F.fld122x5 rfl) <| O.opU rfl (.store1 F.flat39 rfl rfl (by first | rfl | assumption) (by repeat (first | exact zh | apply zt)) (by first | (simp; done) | (simp [Value.cells]; done))) ?_
 refine O.nil <| S.end0 Tryz.results76 fun w hw => Holds.end_ hR hw ?_
 exact pk ⟨a11, c11, rfl, rfl⟩
theorem apartB_c {r : Fr} {b : Nat} {u : Value} {vs : List Value} {xss : List (List UInt8)} (hls : Arr Rp.val r u vs) (hq : ∀ x ∈ xss, x.length ≤ 100000000) (hb : xss.length ≤ 100000000) :
  Con Tryz.prog 77 #[.pointer (some ⟨b, 0, none⟩)] r [obj b 122 (bagB u), RowsP Rp.u8 5 vs xss] (Ret fun v η => v = .bool true ∧ η = []) := by
 refine Con.of (n := 169) _ rfl Tryz.func77 rfl rfl rfl fun g hg R hR => ?_
 have hls := hls.mono hg
 unfold bagB
 refine S.seq <| S.region rfl <| O.q 1 rfl <| O.nil <| S.seq <| S.region rfl <| O.q 1 rfl <| O.op (.p rfl) (.nilCheck rfl) <| O.op (.p rfl) (.fieldObj F.fld122x0 rfl) <| O.op (.p rfl) (.lo F.flat100) ?_
 refine O.call0 (.p rfl) rfl F.ok162 rfl rfl (flatLimbs_0) ?_
 rintro v7 _ ⟨rfl, rfl⟩
 try simp only [zx1, zx2, zx3]
 refine O.sT 7 rfl (by first | decide | simp) ?_
 refine O.q 2 rfl <| O.op (.g rfl rfl) (.nilCheck rfl) <| O.op (.g rfl rfl) (.fieldObj F.fld122x1 rfl) <| O.op (.g rfl rfl) (.lo F.flat101) ?_
 refine O.call0 (.g rfl rfl) rfl F.ok163 rfl rfl (flatWords_0) ?_
 rintro v13 _ ⟨rfl, rfl⟩
 try simp only [zx1, zx2, zx3]
 refine O.sT 13 rfl (by first | decide | simp) ?_
 refine O.q 3 rfl <| O.op (.g rfl rfl) (.nilCheck rfl) <| O.op (.g rfl rfl) (.fieldObj F.fld122x2 rfl) <| O.op (.g rfl rfl) (.lo F.flat102) ?_
 refine O.call0 (.g rfl rfl) rfl F.ok164 rfl rfl (flatInts_0) ?_
 rintro v20 _ ⟨rfl, rfl⟩
 try simp only [zx1, zx2, zx3]
 refine O.sT 20 rfl (by first | decide | simp) ?_
 refine O.q 3 rfl <| O.op (.g rfl rfl) (.nilCheck rfl) <| O.op (.g rfl rfl) (.fieldObj F.fld122x3 rfl) <| O.op (.g rfl rfl) (.lo F.flat103) ?_
 refine O.call0 (.g rfl rfl) rfl F.ok165 rfl rfl (flatLongs_0) ?_
 rintro v27 _ ⟨rfl, rfl⟩
 try simp only [zx1, zx2, zx3]
 refine O.sT 27 rfl (by first | decide | simp) ?_
 refine O.q 3 rfl <| O.op (.g rfl rfl) (.nilCheck rfl) <| O.op (.g rfl rfl) (.fieldObj F.fld122x4 rfl) <| O.op (.g rfl rfl) (.lo F.flat104) ?_
 refine O.call0 (.g rfl rfl) rfl F.ok166 rfl rfl (flatTexts_0) ?_
 rintro v34 _ ⟨rfl, rfl⟩
 try simp only [zx1, zx2, zx3]
 refine O.sT 34 rfl (by first | decide | simp) ?_
 refine O.q 3 rfl <| O.op (.g rfl rfl) (.nilCheck rfl) <| O.op (.g rfl rfl) (.fieldObj F.fld122x5 rfl) <| O.op (.g rfl rfl) (.lo F.flat39) ?_
 refine O.callS (.g rfl rfl) rfl F.ok167 rfl rfl (by repeat (first | exact zh | apply zt)) (flatBytes_c hls hq hb) ?_
 rintro v41 _ ⟨rfl, rfl⟩
 try simp only [zx1, zx2, zx3]
 refine O.sT 41 rfl (by first | decide | simp) ?_
 refine O.q 3 rfl <| O.op (.g rfl rfl) (.nilCheck rfl) <| O.op (.g rfl rfl) (.fieldObj F.fld122x6 rfl) <| O.op (.g rfl rfl) (.lo F.flat105) ?_
 refine O.call0 (.g rfl rfl) rfl F.ok168 rfl rfl (flatTruths_0) ?_
 rintro v48 _ ⟨rfl, rfl⟩
 try simp only [zx1, zx2, zx3]
 refine O.sT 48 rfl (by first | decide | simp) ?_
 refine O.q 3 rfl <| O.op (.g rfl rfl) (.nilCheck rfl) <| O.op (.g rfl rfl) (.fieldObj F.fld122x7 rfl) <| O.op (.g rfl rfl) (.lo F.flat106) ?_
 refine O.call0 (.g rfl rfl) rfl F.ok169 rfl rfl (flatRows_0) ?_
 rintro v55 _ ⟨rfl, rfl⟩
 try simp only [zx1, zx2, zx3]
 refine O.sT 55 rfl (by first | decide | simp) ?_
 refine O.q 3 rfl <| O.op (.g rfl rfl) (.nilCheck rfl) <| O.op (.g rfl rfl) (.fieldObj F.fld122x8 rfl) <| O.op (.g rfl rfl) (.lo F.flat107) ?_
 refine O.call0 (.g rfl rfl) rfl F.ok170 rfl rfl (flatDots_0) ?_
 rintro v62 _ ⟨rfl, rfl⟩
 try simp only [zx1, zx2, zx3]
 refine O.sT 62 rfl (by first | decide | simp) ?_
 refine O.q 3 rfl <| O.op (.g rfl rfl) (.nilCheck rfl) <| O.op (.g rfl rfl) (.fieldObj F.fld122x9 rfl) <| O.op (.g rfl rfl) (.lo F.flat65) ?_
 refine O.call0 (.g rfl rfl) rfl F.ok171 rfl rfl (flatRecords_0) ?_
 rintro v69 _ ⟨rfl, rfl⟩
 try simp only [zx1, zx2, zx3]
 refine O.sT 69 rfl (by first | decide | simp) ?_
 refine O.q 3 rfl <| O.op (.g rfl rfl) (.nilCheck rfl) <| O.op (.g rfl rfl) (.fieldObj F.fld122x10 rfl) <| O.op (.g rfl rfl) (.lo F.flat108) ?_
 refine O.call0 (.g rfl rfl) rfl F.ok172 rfl rfl (flatLeaves_0) ?_
 rintro v76 _ ⟨rfl, rfl⟩
 try simp only [zx1, zx2, zx3]
 refine O.sT 76 rfl (by first | decide | simp) ?_
 refine O.q 3 rfl <| O.op (.g rfl rfl) (.nilCheck rfl) <| O.op (.g rfl rfl) (.fieldObj F.fld122x11 rfl) <| O.op (.g rfl rfl) (.lo F.flat109) ?_
 refine O.call0 (.g rfl rfl) rfl F.ok173 rfl rfl (flatGrants_0) ?_
 rintro v83 _ ⟨rfl, rfl⟩
 try simp only [zx1, zx2, zx3]
 refine O.sT 83 rfl (by first | decide | simp) ?_
 refine O.q 3 rfl <| O.op (.g rfl rfl) (.nilCheck rfl) <| O.op (.g rfl rfl) (.fieldObj F.fld122x12 rfl) <| O.op (.g rfl rfl) (.lo F.flat110) ?_
 refine O.call0 (.g rfl rfl) rfl F.ok174 rfl rfl (flatNodes_0) ?_
 rintro v90 _ ⟨rfl, rfl⟩
 try simp only [zx1, zx2, zx3]
 refine O.sT 90 rfl (by first | decide | simp) ?_
 refine O.q 3 rfl <| O.op (.g rfl rfl) (.nilCheck rfl) <| O.op (.g rfl rfl) (.fieldObj F.fld122x13 rfl) <| O.op (.g rfl rfl) (.lo F.flat111) ?_
 refine O.call0 (.g rfl rfl) rfl F.ok175 rfl rfl (flatStubs_0) ?_
 rintro v97 _ ⟨rfl, rfl⟩
 try simp only [zx1, zx2, zx3]
 refine O.sT 97 rfl (by first | decide | simp) ?_
 refine O.q 3 rfl <| O.op (.g rfl rfl) (.nilCheck rfl) <| O.op (.g rfl rfl) (.fieldObj F.fld122x14 rfl) <| O.op (.g rfl rfl) (.lo F.flat112) ?_
 refine O.call0 (.g rfl rfl) rfl F.ok176 rfl rfl (flatProofs_0) ?_
 rintro v104 _ ⟨rfl, rfl⟩
 try simp only [zx1, zx2, zx3]
 refine O.sT 104 rfl (by first | decide | simp) ?_
 refine O.q 3 rfl <| O.op (.g rfl rfl) (.nilCheck rfl) <| O.op (.g rfl rfl) (.fieldObj F.fld122x15 rfl) <| O.op (.g rfl rfl) (.lo F.flat113) ?_
 refine O.call0 (.g rfl rfl) rfl F.ok177 rfl rfl (flatRoots_0) ?_
 rintro v111 _ ⟨rfl, rfl⟩
 try simp only [zx1, zx2, zx3]
 refine O.sT 111 rfl (by first | decide | simp) ?_
 refine O.q 3 rfl <| O.op (.g rfl rfl) (.nilCheck rfl) <| O.op (.g rfl rfl) (.fieldObj F.fld122x16 rfl) <| O.op (.g rfl rfl) (.lo F.flat114) ?_
 refine O.call0 (.g rfl rfl) rfl F.ok178 rfl rfl (flatEvidenceRow_0) ?_
 rintro v118 _ ⟨rfl, rfl⟩
 try simp only [zx1, zx2, zx3]
 refine O.sT 118 rfl (by first | decide | simp) ?_
 refine O.q 3 rfl <| O.op (.g rfl rfl) (.nilCheck rfl) <| O.op (.g rfl rfl) (.fieldObj F.fld122x17 rfl) <| O.op (.g rfl rfl) (.lo F.flat115) ?_
 refine O.call0 (.g rfl rfl) rfl F.ok179 rfl rfl (flatFrames_0) ?_
 rintro v125 _ ⟨rfl, rfl⟩
 try simp only [zx1, zx2, zx3]
 refine O.sT 125 rfl (by first | decide | simp) ?_
 refine O.q 3 rfl <| O.op (.g rfl rfl) (.nilCheck rfl) <| O.op (.g rfl rfl) (.fieldObj F.fld122x18 rfl) <| O.op (.g rfl rfl) (.lo F.flat116) ?_
 refine O.call0 (.g rfl rfl) rfl F.ok180 rfl rfl (flatPackets_0) ?_
 rintro v132 _ ⟨rfl, rfl⟩
 try simp only [zx1, zx2, zx3]
 refine O.sT 132 rfl (by first | decide | simp) ?_
 refine O.q 3 rfl <| O.op (.g rfl rfl) (.nilCheck rfl) <| O.op (.g rfl rfl) (.fieldObj F.fld122x19 rfl) <| O.op (.g rfl rfl) (.lo F.flat117) ?_
 refine O.call0 (.g rfl rfl) rfl F.ok181 rfl rfl (flatEntries_0) ?_
 rintro v139 _ ⟨rfl, rfl⟩
 try simp only [zx1, zx2, zx3]
 refine O.sT 139 rfl (by first | decide | simp) ?_
 refine O.q 3 rfl <| O.op (.g rfl rfl) (.nilCheck rfl) <| O.op (.g rfl rfl) (.fieldObj F.fld122x20 rfl) <| O.op (.g rfl rfl) (.lo F.flat46) ?_
 refine O.call0 (.g rfl rfl) rfl F.ok182 rfl rfl (flatHeldRow_0) ?_
 rintro v146 _ ⟨rfl, rfl⟩
 try simp only [zx1, zx2, zx3]
 refine O.sT 146 rfl (by first | decide | simp) ?_
 refine O.q 3 rfl <| O.op (.g rfl rfl) (.nilCheck rfl) <| O.op (.g rfl rfl) (.fieldObj F.fld122x21 rfl) <| O.op (.g rfl rfl) (.lo F.flat118) ?_
 refine O.call0 (.g rfl rfl) rfl F.ok183 rfl rfl (flatConfigs_0) ?_
 rintro v153 _ ⟨rfl, rfl⟩
 try simp only [zx1, zx2, zx3]
 refine O.sT 153 rfl (by first | decide | simp) ?_
 refine O.q 3 rfl <| O.op (.g rfl rfl) (.nilCheck rfl) <| O.op (.g rfl rfl) (.fieldObj F.fld122x22 rfl) <| O.op (.g rfl rfl) (.lo F.flat119) ?_
 refine O.call0 (.g rfl rfl) rfl F.ok184 rfl rfl (flatSteps_0) ?_
 rintro v160 _ ⟨rfl, rfl⟩
 try simp only [zx1, zx2, zx3]
 refine O.sT 160 rfl (by first | decide | simp) ?_
 refine O.q 3 rfl <| O.op (.g rfl rfl) (.nilCheck rfl) <| O.op (.g rfl rfl) (.fieldObj F.fld122x23 rfl) <| O.op (.g rfl rfl) (.lo F.flat120) ?_
 refine O.call0 (.g rfl rfl) rfl F.ok185 rfl rfl (flatTales_0) ?_
 rintro v167 _ ⟨rfl, rfl⟩
 try simp only [zx1, zx2, zx3]
 refine O.sT 167 rfl (by first | decide | simp) ?_
 refine O.q 2 rfl <| O.nil ?_
 exact S.rt Tryz.results77 rfl hR ⟨rfl, rfl⟩
theorem ApartBytes_c {r : Fr} {va : Value} {vs : List Value} {xss : List (List UInt8)} (hls : Arr Rp.val r va vs) (hq : ∀ x ∈ xss, x.length ≤ 100000000) (hb : xss.length ≤ 100000000) :
  Con Tryz.prog 23 #[va] r [RowsP Rp.u8 5 vs xss] (Ret fun v η => v = .bool true ∧ η = []) := by
 refine Con.of (n := 21) _ rfl Tryz.func23 rfl rfl rfl fun g hg R hR => ?_
 have hls := hls.mono hg
 obtain ⟨a1, c1, rfl⟩ := hls.shape
 refine S.factS Sel.here (fun _ x => EachP.len x) fun hlen => ?_
 refine S.factS Sel.here (fun _ x => EachP.all2 (R := fun v x => ∃ a c, v = .slice a x.length c) (fun _ _ _ y _ => OwnP.shape y) x (Fr.sub_refl _)) fun hsh => ?_
 refine S.seq <| S.region rfl <| O.q 1 rfl <| O.nil <| S.seq <| S.region rfl <| O.op (.p rfl) (.build (cs := [_, _, _, _, _, _, _, _, _, _, _, _, _, _, _, _, _, _, _, _, _, _, _, _]) Tryz.underlying122 rfl rfl rfl rfl rfl) <| O.opE (.p rfl) (.box (cs := [_, _, _, _, _, _, _, _, _, _, _, _, _, _, _, _, _, _, _, _, _, _, _, _]) rfl rfl) ?_
 rintro _ _ ⟨b6, rfl, rfl⟩
 refine O.q 1 rfl <| O.nil <| S.seq <| S.seq <| S.region rfl <| O.q 1 rfl <| O.nil <| S.block <| S.addNil (T := Rp.val) (e := 31) ?_
 refine S.loopK3 (ι := Nat) (κ := Option Addr) (υ := Nat) (fun k a c => k ≤ vs.length) (fun k a c => [(4, .int .i64 (k : Int))]) [(0, _), (3, _)] (fun k a c => [OwnP Rp.val 31 (.slice a (vs.take k).length c) (vs.take k), obj b6 122 (bagB (.slice a (vs.take k).length c)), RowsP Rp.u8 5 vs xss]) (fun k a c => vs.length - k) (0) (none) (0) (by simp) (.cons rfl (.nil)) (.cons rfl (.cons rfl (.nil))) rfl fun k a c hx ih => ?_
 have hm1 := meltRefl (g := g)
 refine S.seq <| S.seq <| S.region rfl <| O.q 2 rfl <| O.op (.p rfl) (.len rfl Tryz.underlying39 rfl) <| O.op (.p rfl) (.lss rfl rfl) <| O.nil ?_
 first | refine S.condD rfl (fun h10 => ?_) (fun h10 => ?_) | refine S.condB rfl (fun h10 => ?_) (fun h10 => ?_)
 ·have hk : k < vs.length := by omega
  obtain ⟨ak, ck, hvk⟩ := hsh.get k hk (by omega)
  have hl : (vs.take k).length = k := by simp; omega
  refine S.skip <| S.seq <| S.block <| S.region rfl <| O.q 3 rfl <| O.ia (.p rfl) Tryz.underlying39 F.size31 rfl rfl rfl (hls) (h := fun p16 cs16 hp16 hr16 => ?_)
  obtain ⟨rfl, _⟩ := hr16
  refine O.op (.p rfl) (.loadAt F.flat31 rfl hp16 rfl) ?_
  refine O.slot 17 (v' := .slice ak xss[k].length ck) rfl (by exact hvk) ?_
  refine O.callSs (.p rfl) rfl F.ok76 rfl rfl (by repeat (first | exact zsn | (apply zsc; focus (repeat (first | exact zh | apply zt))))) (putBytes_c (by omega)) ?_
  rintro v18 _ ⟨a18, c18, rfl, rfl⟩
  try simp only [zx1, zx2, zx3]
  refine O.nil <| S.inBlock <| S.region rfl <| O.q 1 rfl <| O.op (.p rfl) (.add rfl rfl (IntWalk.i64_in _ (by omega))) <| O.q 1 rfl <| O.nil ?_
  rw [← hvk, ← List.take_succ_eq_append_getElem hk]
  have hl2 : (vs.take k).length + 1 = (vs.take (k + 1)).length := by simp; omega
  rw [hl2]
  exact S.pw (ih (k + 1) (a18) (c18) (by omega) (by omega))
 ·have hk : k = vs.length := by omega
  subst hk
  rw [List.take_length]
  refine S.frzA (by repeat (first | exact zh | apply zt)) fun g hs hm hbag => ?_
  replace hg := Fr.sub_trans hg hs
  replace hR := melted hR hm
  try replace hls := hls.mono hs
  replace hm1 := meltTrans hm1 hm
  clear hs hm
  refine S.exit rfl <| S.seq <| S.region rfl <| O.q 1 rfl <| O.callSs (.p rfl) rfl F.ok77 rfl rfl (by repeat (first | exact zsn | (apply zsc; focus (repeat (first | exact zh | apply zt))))) (apartB_c hbag hq hb) ?_
  rintro v20 _ ⟨rfl, rfl⟩
  try simp only [zx1, zx2, zx3]
  refine O.q 1 rfl <| O.nil ?_
  exact S.rt Tryz.results23 rfl hR ⟨rfl, rfl⟩
end Go.Proofs.YtodhbhanmdfdeaaGreat
end
section
/- Texts of this proof, one behind the other. -/
section
/- Texts of this proof. -/
open Go Go.Sp
set_option maxRecDepth 100000
attribute [local irreducible] obj Own OwnP
namespace Go.Proofs.YtodhbhanmdfdeaaGreat
abbrev tys : Tys := ⟨5, 3, 31, 166, 74, 49, 280, 275, 285, 52, 55, 291, 27⟩
theorem markDot_c {r : Fr} (k i : Int) (hk : Mk k) (hi : Mk i) : Con Tryz.prog 244 #[.int .i64 k, .int .i64 i] r [] (Ret fun v η => v = .agg #[.int .i64 0, .int .i64 (markZ k i)] ∧ η = []) := by
 refine Con.of (n := 9) _ rfl Tryz.func244 rfl rfl rfl fun g hg R hR => ?_
 refine S.seq <| S.region rfl <| O.opE (.p rfl) (.alloc (cs := [.int .i64 0, .int .i64 0]) Tryz.zeroValue166 rfl) ?_
 rintro _ _ ⟨b4, rfl, rfl⟩
 refine O.nil <| S.seq <| S.region rfl <| O.q 2 rfl <| O.call0 (.p rfl) rfl F.ok143 rfl rfl ((mark_c _ _ hk hi)) ?_
 rintro v7 _ ⟨rfl, rfl⟩
 try simp only [zx1, zx2, zx3]
 refine O.op (.p rfl) (.build (cs := [_, _]) Tryz.underlying166 rfl rfl rfl rfl rfl) <| O.opU rfl (.storeObj (by kernel_rfl) rfl rfl rfl rfl (by repeat (first | exact zh | apply zt)) (by first | (simp; done) | (simp [Value.cells]; done))) ?_
 refine O.nil <| S.retCellAgg Tryz.results244 Tryz.isAgg166 (by kernel_rfl) rfl (by repeat (first | exact zh | apply zt)) fun w hw => Holds.end_ hR hw ?_
 exact pk ⟨rfl, rfl⟩
theorem markDot_rel {h : Fr} {k i : Int} (hk : Mk k) (hi : Mk i) : DotRp.rel h [.int .i64 0, .int .i64 (markZ k i)] (markDot k i) := DotRp.mk (by constructor <;> decide) (markZ64 hk hi)
theorem lentDots_c {r : Fr} {va : Value} {xs : List DotT} (ha : Arr DotRp r va xs) (hl : xs.length ≤ 100000000000) :
  Con Tryz.prog 202 #[va] r [] (Ret fun v η => ∃ a c, v = .slice a xs.length c ∧ η = [LentQ DotRp 166 (markDot 1) v xs]) := by
 refine Con.of (n := 25) _ rfl Tryz.func202 rfl rfl rfl fun g hg R hR => ?_
 have ha := ha.mono hg
 obtain ⟨a1, c1, rfl⟩ := ha.shape
 refine S.seq <| S.region rfl <| O.q 1 rfl <| O.nil <| S.seq <| S.region rfl <| O.q 1 rfl <| O.op (.p rfl) (.len rfl Tryz.underlying72 rfl) <| O.op (.p rfl) (.add rfl rfl (IntWalk.i64_in _ (by omega))) <| O.opE (.p rfl) (.makeP0 (T := DotRp) (c := xs.length + 12) Tryz.underlying72 F.elem166 rfl rfl rfl rfl (by omega) (by omega)) ?_
 rintro v8 _ ⟨a8, c8, rfl, rfl⟩
 refine O.q 1 rfl <| O.nil <| S.seq <| S.region rfl <| O.q 2 rfl <| O.opE (.p rfl) (.appendP (T := DotRp) pure_Dot Tryz.underlying72 F.elem166 (by decide) rfl rfl (by repeat (first | exact zh | apply zt)) (by first | assumption | exact Arr.mono hg (by assumption) | exact Arr.left (by assumption) | exact Arr.left (Arr.mono hg (by assumption))) (by first | omega | (simp; done) | (simp; omega) | decide) (by first | omega | (simp; done) | (simp; omega) | decide)) ?_
 rintro _ _ ⟨a11, c11, rfl, rfl⟩
 refine O.q 1 rfl <| O.nil <| S.seq <| S.seq <| S.region rfl <| O.q 1 rfl <| O.nil (S.block ?_)
 simp only [List.length_nil, Nat.zero_add, List.nil_append]
 refine S.conv (C := OwnP DotRp 166 (.slice a11 (xs.length + 0) c11) (xs ++ mks (markDot 1) 0)) Sel.here (fun m x => ⟨m, Fr.sub_refl _, by simpa [mks] using x⟩) ?_
 refine S.loopK3 (ι := Nat) (κ := Option Addr) (υ := Nat) (fun i a c => i ≤ 12) (fun i a c => [(4, .int .i64 (i : Int)), (3, .slice a (xs.length + i) c)]) [(0, _)] (fun i a c => [OwnP DotRp 166 (.slice a (xs.length + i) c) (xs ++ mks (markDot 1) i)]) (fun i a c => 12 - i) (0) (a11) (c11) (by simp) (.cons rfl (.cons rfl (.nil))) (.cons rfl (.nil)) rfl fun i a c hx ih => ?_
 have hm1 := meltRefl (g := g)
 refine S.seq <| S.seq <| S.region rfl <| O.q 1 rfl <| O.op (.p rfl) (.lss rfl rfl) <| O.nil ?_
 first | refine S.condD rfl (fun h13 => ?_) (fun h13 => ?_) | refine S.condB rfl (fun h13 => ?_) (fun h13 => ?_)
 ·refine S.skip <| S.seq <| S.block <| S.region rfl <| O.q 2 rfl <| O.call0 (.p rfl) rfl F.ok244 rfl rfl (markDot_c _ _ (by constructor <;> omega) (by constructor <;> omega)) ?_
  rintro v18 _ ⟨rfl, rfl⟩
  try simp only [zx1, zx2, zx3]
  refine O.opE (.p rfl) (.litP (T := DotRp) (ys := [markDot 1 (i : Int)]) Tryz.underlying72 F.elem166 (by decide) rfl rfl ⟨markDot_rel (by constructor <;> omega) (by constructor <;> omega), trivial⟩ (by decide)) ?_
  rintro v19 _ ⟨a19, c19, rfl, rfl⟩
  refine O.opE (.p rfl) (.appendO (T := DotRp) Tryz.underlying72 F.elem166 (by decide) rfl rfl (by repeat (first | exact zh | apply zt)) (by repeat (first | exact zh | apply zt)) (by first | omega | (simp; done) | (simp; omega) | decide) (by first | omega | (simp; done) | (simp; omega) | decide)) ?_
  rintro _ _ ⟨a20, c20, rfl, rfl⟩
  refine O.q 1 rfl <| O.nil <| S.inBlock <| S.region rfl <| O.q 1 rfl <| O.op (.p rfl) (.add rfl rfl (IntWalk.i64_in _ (by omega))) <| O.q 1 rfl <| O.nil ?_
  simp only [List.length_append, mks_length]
  rw [List.append_assoc, mks_succ]
  exact S.pw (ih (i + 1) (a20) (c20) (by omega) (by omega))
 ·have hi : i = 12 := by omega
  subst hi
  refine S.factS Sel.here (fun _ x => OwnP.room x) fun hroom => ?_
  refine S.exit rfl <| S.seq <| S.region rfl <| O.q 2 rfl <| O.op (.p rfl) (.len rfl Tryz.underlying72 rfl) <| O.slice0 (q := xs.length) DotRp (.p rfl) Tryz.underlying72 F.size166 rfl rfl rfl (by omega) ?_
  refine O.q 1 rfl <| O.nil <| S.conv (C := LentQ DotRp 166 (markDot 1) (.slice a xs.length c) xs) Sel.here (fun m x => ⟨m, Fr.sub_refl _, a, c, hroom.2, rfl, x⟩) ?_
  refine S.ret Tryz.results202 rfl fun w hw => hR _ _ w ?_ hw
  exact ⟨a, c, rfl, rfl⟩
theorem keptDots_c {r : Fr} {va vl : Value} {xs : List DotT} (hz : LentQA DotRp (markDot 1) r va xs) (hl : Arr DotRp r vl xs) (hb : xs.length ≤ 100000000000) :
  Con Tryz.prog 218 #[va, vl] r [] (Ret fun v η => v = .bool true ∧ η = []) := by
 obtain ⟨a, c, hrm, rfl, hz⟩ := hz
 refine Con.of (n := 58) _ rfl Tryz.func218 rfl rfl rfl fun g hg R hR => ?_
 have hz := hz.mono hg
 have hl := hl.mono hg
 obtain ⟨a1, c1, rfl⟩ := hl.shape
 refine S.seq <| S.region rfl <| O.q 1 rfl <| O.nil <| S.seq <| S.seq <| S.region rfl <| O.q 1 rfl <| O.op (.p rfl) (.len rfl Tryz.underlying72 rfl) <| O.q 1 rfl <| O.op (.p rfl) (.len rfl Tryz.underlying72 rfl) <| O.op (.p rfl) (.neq rfl rfl) <| O.nil ?_
 first | refine S.condD rfl (fun h11 => ?_) (fun h11 => ?_) | refine S.condB rfl (fun h11 => ?_) (fun h11 => ?_)
 ·exact absurd rfl (by assumption)
 ·refine S.skip <| S.seq <| S.region rfl <| O.q 2 rfl <| O.op (.p rfl) (.len rfl Tryz.underlying72 rfl) <| O.op (.p rfl) (.add rfl rfl (IntWalk.i64_in _ (by omega))) <| O.slice0 (q := xs.length + 12) DotRp (.p rfl) Tryz.underlying72 F.size166 rfl rfl rfl (by omega) ?_
  refine O.q 1 rfl <| O.nil <| S.seq <| S.seq <| S.region rfl <| O.q 1 rfl <| O.nil <| S.block <| S.loopK (ι := Nat) (fun i => i ≤ xs.length + 12) (fun i => [(6, .int .i64 (i : Int))]) [(1, _), (5, _)] (fun i => []) (fun i => xs.length + 12 - i) (0) (by simp) (.cons rfl (.nil)) (.cons rfl (.cons rfl (.nil))) rfl fun i hx ih => ?_
  have hm1 := meltRefl (g := g)
  refine S.seq <| S.seq <| S.region rfl <| O.q 2 rfl <| O.op (.p rfl) (.len rfl Tryz.underlying72 rfl) <| O.op (.p rfl) (.lss rfl rfl) <| O.nil ?_
  first | refine S.condD rfl (fun h20 => ?_) (fun h20 => ?_) | refine S.condB rfl (fun h20 => ?_) (fun h20 => ?_)
  ·have hi : i < xs.length + 12 := by omega
   have hlz : i < (xs ++ mks (markDot 1) 12).length := by simp; omega
   refine S.skip <| S.seq <| S.block <| S.seq <| S.regionD (L := [0, 1, 2, 3, 4, 5, 6, 7, 8, 9, 10, 11, 12, 13, 14, 15, 16, 17, 18, 19, 20, 21, 22, 23, 24, 25, 26, 27, 28, 29, 30, 31, 32, 33, 34]) F.mixed (by kernel_rfl) <| OD.q 2 rfl <| .quiet (.p rfl) rfl (fun _ => .len rfl Tryz.underlying72 rfl) <| .quiet (.p rfl) rfl (fun _ => .lss rfl rfl) <| OD.q 1 rfl ?_
   first | refine OD.caseD 27 rfl (fun h27 => ?_) (fun h27 => ?_) | refine OD.caseB 27 rfl (fun h27 => ?_) (fun h27 => ?_)
   ·have hi2 : i < xs.length := by omega
    have hget : (xs ++ mks (markDot 1) 12)[i] = xs[i] := List.getElem_append_left hi2
    refine OD.q 2 rfl <| OD.ia (.g rfl rfl) Tryz.underlying72 F.size166 rfl rfl rfl (hz) (h := fun p30 cs30 hp30 hr30 => ?_)
    obtain ⟨rfl, _, _⟩ := DotRp.open hr30
    rw [hget] at hp30
    refine .quiet (.g rfl rfl) rfl (fun _ => .loadAgg Tryz.isAgg166 (by kernel_rfl) rfl hp30) ?_
    refine OD.q 2 rfl <| OD.ia (.g rfl rfl) Tryz.underlying72 F.size166 rfl rfl rfl (hl) (h := fun p34 cs34 hp34 hr34 => ?_)
    obtain ⟨rfl, _, _⟩ := DotRp.open hr34
    refine .quiet (.g rfl rfl) rfl (fun _ => .loadAgg Tryz.isAgg166 (by kernel_rfl) rfl hp34) ?_
    refine .quiet (.g rfl rfl) rfl (fun _ => .eqlDot Tryz.underlying166 Tryz.underlying3 rfl rfl rfl rfl (by decide) (by decide) (by kernel_rfl) (by kernel_rfl) rfl rfl) <| OD.sT 36 rfl (by simp) ?_
    refine .quiet (.g rfl rfl) rfl (fun _ => .not rfl) <| OD.q 4 rfl <| .quiet (.g rfl rfl) rfl (fun _ => .len rfl Tryz.underlying72 rfl) <| .quiet (.g rfl rfl) rfl (fun _ => .geq rfl rfl) <| OD.sF 43 rfl (by simp; omega) ?_
    refine OD.q 14 rfl <| ODx.nil <| S.condF rfl <| S.skip <| S.inBlock <| S.region rfl <| O.q 1 rfl <| O.op (.p rfl) (.add rfl rfl (IntWalk.i64_in _ (by omega))) <| O.q 1 rfl <| O.nil ?_
    exact S.wk (ih (i + 1) (by omega) (by omega))
   ·have hi2 : xs.length ≤ i := by omega
    have hget : (xs ++ mks (markDot 1) 12)[i] = markDot 1 ((i : Int) - (xs.length : Int)) := by
     rw [List.getElem_append_right hi2, mks_get]; congr 1; omega
    refine OD.q 14 rfl <| .quiet (.g rfl rfl) rfl (fun _ => .len rfl Tryz.underlying72 rfl) <| .quiet (.g rfl rfl) rfl (fun _ => .geq rfl rfl) <| OD.sT 43 rfl (by simp; omega) ?_
    refine OD.q 3 rfl <| OD.ia (.g rfl rfl) Tryz.underlying72 F.size166 rfl rfl rfl (hz) (h := fun p47 cs47 hp47 hr47 => ?_)
    obtain ⟨rfl, _, _⟩ := DotRp.open hr47
    rw [hget] at hp47
    refine .quiet (.g rfl rfl) rfl (fun _ => .loadAgg Tryz.isAgg166 (by kernel_rfl) rfl hp47) ?_
    refine OD.q 2 rfl <| .quiet (.g rfl rfl) rfl (fun _ => .len rfl Tryz.underlying72 rfl) <| .quiet (.g rfl rfl) rfl (fun _ => .sub rfl rfl (IntWalk.i64_in _ (by omega))) <| OD.call0 (.g rfl rfl) (by kernel_rfl) rfl F.ok244 rfl rfl (markDot_c _ _ (by constructor <;> omega) (by constructor <;> omega)) ?_
    rintro v53 _ ⟨rfl, rfl⟩
    try simp only [zx1, zx2, zx3]
    refine .quiet (.g rfl rfl) rfl (fun _ => .eqlDot Tryz.underlying166 Tryz.underlying3 rfl rfl rfl rfl (by decide) (by decide) (by kernel_rfl) (by kernel_rfl) rfl rfl) <| OD.sT 54 rfl (by simp [markDot]) ?_
    refine .quiet (.g rfl rfl) rfl (fun _ => .not rfl) <| OD.q 2 rfl <| ODx.nil <| S.condF rfl <| S.skip <| S.inBlock <| S.region rfl <| O.q 1 rfl <| O.op (.p rfl) (.add rfl rfl (IntWalk.i64_in _ (by omega))) <| O.q 1 rfl <| O.nil ?_
    exact S.wk (ih (i + 1) (by omega) (by omega))
  ·refine S.exit rfl <| S.seq <| S.region rfl <| O.q 1 rfl <| O.nil ?_
   exact S.rt Tryz.results218 rfl hR ⟨rfl, rfl⟩
theorem lentInts_c {r : Fr} {va : Value} {xs : List Int} (ha : Arr Rp.i64 r va xs) (hl : xs.length ≤ 100000000000) :
  Con Tryz.prog 59 #[va] r [] (Ret fun v η => ∃ a c, v = .slice a xs.length c ∧ η = [LentQ Rp.i64 3 (markZ 1) v xs]) := by
 refine Con.of (n := 25) _ rfl Tryz.func59 rfl rfl rfl fun g hg R hR => ?_
 have ha := ha.mono hg
 obtain ⟨a1, c1, rfl⟩ := ha.shape
 refine S.seq <| S.region rfl <| O.q 1 rfl <| O.nil <| S.seq <| S.region rfl <| O.q 1 rfl <| O.op (.p rfl) (.len rfl Tryz.underlying25 rfl) <| O.op (.p rfl) (.add rfl rfl (IntWalk.i64_in _ (by omega))) <| O.opE (.p rfl) (.makeP0 (T := Rp.i64) (c := xs.length + 12) Tryz.underlying25 F.elem3 rfl rfl rfl rfl (by omega) (by omega)) ?_
 rintro v8 _ ⟨a8, c8, rfl, rfl⟩
 refine O.q 1 rfl <| O.nil <| S.seq <| S.region rfl <| O.q 2 rfl <| O.opE (.p rfl) (.appendP (T := Rp.i64) pure_i64 Tryz.underlying25 F.elem3 (by decide) rfl rfl (by repeat (first | exact zh | apply zt)) (by first | assumption | exact Arr.mono hg (by assumption) | exact Arr.left (by assumption) | exact Arr.left (Arr.mono hg (by assumption))) (by first | omega | (simp; done) | (simp; omega) | decide) (by first | omega | (simp; done) | (simp; omega) | decide)) ?_
 rintro _ _ ⟨a11, c11, rfl, rfl⟩
 refine O.q 1 rfl <| O.nil <| S.seq <| S.seq <| S.region rfl <| O.q 1 rfl <| O.nil (S.block ?_)
 simp only [List.length_nil, Nat.zero_add, List.nil_append]
 refine S.conv (C := OwnP Rp.i64 3 (.slice a11 (xs.length + 0) c11) (xs ++ mks (markZ 1) 0)) Sel.here (fun m x => ⟨m, Fr.sub_refl _, by simpa [mks] using x⟩) ?_
 refine S.loopK3 (ι := Nat) (κ := Option Addr) (υ := Nat) (fun i a c => i ≤ 12) (fun i a c => [(4, .int .i64 (i : Int)), (3, .slice a (xs.length + i) c)]) [(0, _)] (fun i a c => [OwnP Rp.i64 3 (.slice a (xs.length + i) c) (xs ++ mks (markZ 1) i)]) (fun i a c => 12 - i) (0) (a11) (c11) (by simp) (.cons rfl (.cons rfl (.nil))) (.cons rfl (.nil)) rfl fun i a c hx ih => ?_
 have hm1 := meltRefl (g := g)
 refine S.seq <| S.seq <| S.region rfl <| O.q 1 rfl <| O.op (.p rfl) (.lss rfl rfl) <| O.nil ?_
 first | refine S.condD rfl (fun h13 => ?_) (fun h13 => ?_) | refine S.condB rfl (fun h13 => ?_) (fun h13 => ?_)
 ·refine S.skip <| S.seq <| S.block <| S.region rfl <| O.q 2 rfl <| O.call0 (.p rfl) rfl F.ok143 rfl rfl (mark_c _ _ (by constructor <;> omega) (by constructor <;> omega)) ?_
  rintro v18 _ ⟨rfl, rfl⟩
  try simp only [zx1, zx2, zx3]
  refine O.opE (.p rfl) (.litP (T := Rp.i64) (ys := [markZ 1 (i : Int)]) Tryz.underlying25 F.elem3 (by decide) rfl rfl ⟨⟨rfl, markZ64 (by constructor <;> omega) (by constructor <;> omega)⟩, trivial⟩ (by decide)) ?_
  rintro v19 _ ⟨a19, c19, rfl, rfl⟩
  refine O.opE (.p rfl) (.appendO (T := Rp.i64) Tryz.underlying25 F.elem3 (by decide) rfl rfl (by repeat (first | exact zh | apply zt)) (by repeat (first | exact zh | apply zt)) (by first | omega | (simp; done) | (simp; omega) | decide) (by first | omega | (simp; done) | (simp; omega) | decide)) ?_
  rintro _ _ ⟨a20, c20, rfl, rfl⟩
  refine O.q 1 rfl <| O.nil <| S.inBlock <| S.region rfl <| O.q 1 rfl <| O.op (.p rfl) (.add rfl rfl (IntWalk.i64_in _ (by omega))) <| O.q 1 rfl <| O.nil ?_
  simp only [List.length_append, mks_length]
  rw [List.append_assoc, mks_succ]
  exact S.pw (ih (i + 1) (a20) (c20) (by omega) (by omega))
 ·have hi : i = 12 := by omega
  subst hi
  refine S.factS Sel.here (fun _ x => OwnP.room x) fun hroom => ?_
  refine S.exit rfl <| S.seq <| S.region rfl <| O.q 2 rfl <| O.op (.p rfl) (.len rfl Tryz.underlying25 rfl) <| O.slice0 (q := xs.length) Rp.i64 (.p rfl) Tryz.underlying25 F.size3 rfl rfl rfl (by omega) ?_
  refine O.q 1 rfl <| O.nil <| S.conv (C := LentQ Rp.i64 3 (markZ 1) (.slice a xs.length c) xs) Sel.here (fun m x => ⟨m, Fr.sub_refl _, a, c, hroom.2, rfl, x⟩) ?_
  refine S.ret Tryz.results59 rfl fun w hw => hR _ _ w ?_ hw
  exact ⟨a, c, rfl, rfl⟩
theorem keptInts_c {r : Fr} {va vl : Value} {xs : List Int} (hz : LentQA Rp.i64 (markZ 1) r va xs) (hl : Arr Rp.i64 r vl xs) (hb : xs.length ≤ 100000000000) :
  Con Tryz.prog 75 #[va, vl] r [] (Ret fun v η => v = .bool true ∧ η = []) := by
 obtain ⟨a, c, hrm, rfl, hz⟩ := hz
 refine Con.of (n := 58) _ rfl Tryz.func75 rfl rfl rfl fun g hg R hR => ?_
 have hz := hz.mono hg
 have hl := hl.mono hg
 obtain ⟨a1, c1, rfl⟩ := hl.shape
 refine S.seq <| S.region rfl <| O.q 1 rfl <| O.nil <| S.seq <| S.seq <| S.region rfl <| O.q 1 rfl <| O.op (.p rfl) (.len rfl Tryz.underlying25 rfl) <| O.q 1 rfl <| O.op (.p rfl) (.len rfl Tryz.underlying25 rfl) <| O.op (.p rfl) (.neq rfl rfl) <| O.nil ?_
 first | refine S.condD rfl (fun h11 => ?_) (fun h11 => ?_) | refine S.condB rfl (fun h11 => ?_) (fun h11 => ?_)
 ·exact absurd rfl (by assumption)
 ·refine S.skip <| S.seq <| S.region rfl <| O.q 2 rfl <| O.op (.p rfl) (.len rfl Tryz.underlying25 rfl) <| O.op (.p rfl) (.add rfl rfl (IntWalk.i64_in _ (by omega))) <| O.slice0 (q := xs.length + 12) Rp.i64 (.p rfl) Tryz.underlying25 F.size3 rfl rfl rfl (by omega) ?_
  refine O.q 1 rfl <| O.nil <| S.seq <| S.seq <| S.region rfl <| O.q 1 rfl <| O.nil <| S.block <| S.loopK (ι := Nat) (fun i => i ≤ xs.length + 12) (fun i => [(6, .int .i64 (i : Int))]) [(1, _), (5, _)] (fun i => []) (fun i => xs.length + 12 - i) (0) (by simp) (.cons rfl (.nil)) (.cons rfl (.cons rfl (.nil))) rfl fun i hx ih => ?_
  have hm1 := meltRefl (g := g)
  refine S.seq <| S.seq <| S.region rfl <| O.q 2 rfl <| O.op (.p rfl) (.len rfl Tryz.underlying25 rfl) <| O.op (.p rfl) (.lss rfl rfl) <| O.nil ?_
  first | refine S.condD rfl (fun h20 => ?_) (fun h20 => ?_) | refine S.condB rfl (fun h20 => ?_) (fun h20 => ?_)
  ·have hi : i < xs.length + 12 := by omega
   have hlz : i < (xs ++ mks (markZ 1) 12).length := by simp; omega
   refine S.skip <| S.seq <| S.block <| S.seq <| S.regionD (L := [0, 1, 2, 3, 4, 5, 6, 7, 8, 9, 10, 11, 12, 13, 14, 15, 16, 17, 18, 19, 20, 21, 22, 23, 24, 25, 26, 27, 28, 29, 30, 31, 32, 33, 34]) F.mixed (by kernel_rfl) <| OD.q 2 rfl <| .quiet (.p rfl) rfl (fun _ => .len rfl Tryz.underlying25 rfl) <| .quiet (.p rfl) rfl (fun _ => .lss rfl rfl) <| OD.q 1 rfl ?_
   first | refine OD.caseD 27 rfl (fun h27 => ?_) (fun h27 => ?_) | refine OD.caseB 27 rfl (fun h27 => ?_) (fun h27 => ?_)
   ·have hi2 : i < xs.length := by omega
    have hget : (xs ++ mks (markZ 1) 12)[i] = xs[i] := List.getElem_append_left hi2
    refine OD.q 2 rfl <| OD.ia (.g rfl rfl) Tryz.underlying25 F.size3 rfl rfl rfl (hz) (h := fun p30 cs30 hp30 hr30 => ?_)
    obtain ⟨rfl, _⟩ := hr30
    rw [hget] at hp30
    refine .quiet (.g rfl rfl) rfl (fun _ => .loadAt F.flat3 rfl hp30 rfl) ?_
    refine OD.q 2 rfl <| OD.ia (.g rfl rfl) Tryz.underlying25 F.size3 rfl rfl rfl (hl) (h := fun p34 cs34 hp34 hr34 => ?_)
    obtain ⟨rfl, _⟩ := hr34
    refine .quiet (.g rfl rfl) rfl (fun _ => .loadAt F.flat3 rfl hp34 rfl) ?_
    refine .quiet (.g rfl rfl) rfl (fun _ => .eql rfl rfl) <| OD.sT 36 rfl (by simp) ?_
    refine .quiet (.g rfl rfl) rfl (fun _ => .not rfl) <| OD.q 4 rfl <| .quiet (.g rfl rfl) rfl (fun _ => .len rfl Tryz.underlying25 rfl) <| .quiet (.g rfl rfl) rfl (fun _ => .geq rfl rfl) <| OD.sF 43 rfl (by simp; omega) ?_
    refine OD.q 14 rfl <| ODx.nil <| S.condF rfl <| S.skip <| S.inBlock <| S.region rfl <| O.q 1 rfl <| O.op (.p rfl) (.add rfl rfl (IntWalk.i64_in _ (by omega))) <| O.q 1 rfl <| O.nil ?_
    exact S.wk (ih (i + 1) (by omega) (by omega))
   ·have hi2 : xs.length ≤ i := by omega
    have hget : (xs ++ mks (markZ 1) 12)[i] = markZ 1 ((i : Int) - (xs.length : Int)) := by
     rw [List.getElem_append_right hi2, mks_get]; congr 1; omega
    refine OD.q 14 rfl <| .quiet (.g rfl rfl) rfl (fun _ => .len rfl Tryz.underlying25 rfl) <| .quiet (.g rfl rfl) rfl (fun _ => .geq rfl rfl) <| OD.sT 43 rfl (by simp; omega) ?_
    refine OD.q 3 rfl <| OD.ia (.g rfl rfl) Tryz.underlying25 F.size3 rfl rfl rfl (hz) (h := fun p47 cs47 hp47 hr47 => ?_)
    obtain ⟨rfl, _⟩ := hr47
    rw [hget] at hp47
    refine .quiet (.g rfl rfl) rfl (fun _ => .loadAt F.flat3 rfl hp47 rfl) ?_
    refine OD.q 2 rfl <| .quiet (.g rfl rfl) rfl (fun _ => .len rfl Tryz.underlying25 rfl) <| .quiet (.g rfl rfl) rfl (fun _ => .sub rfl rfl (IntWalk.i64_in _ (by omega))) <| OD.call0 (.g rfl rfl) (by kernel_rfl) rfl F.ok143 rfl rfl (mark_c _ _ (by constructor <;> omega) (by constructor <;> omega)) ?_
    rintro v53 _ ⟨rfl, rfl⟩
    try simp only [zx1, zx2, zx3]
    refine .quiet (.g rfl rfl) rfl (fun _ => .eql rfl rfl) <| OD.sT 54 rfl (by simp [markDot]) ?_
    refine .quiet (.g rfl rfl) rfl (fun _ => .not rfl) <| OD.q 2 rfl <| ODx.nil <| S.condF rfl <| S.skip <| S.inBlock <| S.region rfl <| O.q 1 rfl <| O.op (.p rfl) (.add rfl rfl (IntWalk.i64_in _ (by omega))) <| O.q 1 rfl <| O.nil ?_
    exact S.wk (ih (i + 1) (by omega) (by omega))
  ·refine S.exit rfl <| S.seq <| S.region rfl <| O.q 1 rfl <| O.nil ?_
   exact S.rt Tryz.results75 rfl hR ⟨rfl, rfl⟩
end Go.Proofs.YtodhbhanmdfdeaaGreat
end
section
/- Texts of this proof. -/
open Go Go.Sp
set_option maxRecDepth 100000
attribute [local irreducible] obj Own OwnP
namespace Go.Proofs.YtodhbhanmdfdeaaGreat
theorem keptBytes_l {r : Fr} {va vl : Value} {xs : List UInt8} (hz : LentQA Rp.u8 (markB 1) r va xs) (hl : Arr Rp.u8 r vl xs) (hb : xs.length ≤ 1000000000000) :
  Con Tryz.prog 27 #[va, vl] r [] (Ret fun v η => v = .bool true ∧ η = []) := by
 obtain ⟨a, c, hrm, rfl, hz⟩ := hz
 exact (KeptBytes_c hz hl (by omega)).post fun e η h w g hw => by
  cases e with
  | returned v =>
   obtain ⟨rfl, rfl⟩ := h
   exact ⟨_, ⟨by simp, rfl⟩, hw⟩
  | panicked _ => exact h.elim
  | outgrown => exact h.elim
end Go.Proofs.YtodhbhanmdfdeaaGreat
end
end
