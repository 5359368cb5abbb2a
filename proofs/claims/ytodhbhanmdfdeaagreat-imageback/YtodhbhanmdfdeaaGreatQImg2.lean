/- Texts of this proof, one behind the other. -/
import Derived.Test.YtodhbhanmdfdeaaGreatQFc
import Derived.Test.YtodhbhanmdfdeaaGreatQSib4
import Derived.Test.YtodhbhanmdfdeaaGreatQEvid2
import Derived.Test.YtodhbhanmdfdeaaGreatQSpImg
import Derived.Test.YtodhbhanmdfdeaaGreatQSpAuto
section
/- Texts of this proof. -/
open Go Go.Sp
set_option maxRecDepth 100000
attribute [local irreducible] obj Own OwnP
namespace Go.Proofs.YtodhbhanmdfdeaaGreat
theorem imust_c {r : Fr} (b : Bool) : Con Tryz.prog 90 #[.bool b] r [] (RetP (fun v η => b = true ∧ v = .tuple #[] ∧ η = []) (fun ch η => b = false ∧ ch = errP 32 4 ∧ η = [])) := by
 refine Con.of (n := 5) _ rfl Tryz.func90 rfl rfl rfl fun g hg R hR => ?_
 refine S.seq <| S.region rfl <| O.q 1 rfl <| O.op (.p rfl) ((by first | exact .notD rfl | exact .not rfl)) ?_
 refine O.nil ?_
 first | refine S.condD rfl (fun h3 => ?_) (fun h3 => ?_) | refine S.condB rfl (fun h3 => ?_) (fun h3 => ?_)
 ·refine S.region rfl <| O.op (.p rfl) (.mkIface Tryz.underlying32 rfl) <| O.panic rfl rfl (fun w hw => ?_)
  exact hR _ [] w ⟨by simpa using h3, rfl, rfl⟩ hw
 ·refine S.skip <| S.end0 Tryz.results90 fun w hw => hR _ _ w ?_ hw
  exact ⟨by simpa using h3, rfl, rfl⟩
theorem told_c {r : Fr} {a : Option Addr} {n c : Nat} {z : Int} : Con Tryz.prog 237 #[.slice a n c, .int .i64 z] r [] (RetP (fun v η => z = 0 ∧ v = .slice a n c ∧ η = []) (fun ch η => z ≠ 0 ∧ ch = errP 32 4 ∧ η = [])) := by
 refine Con.of (n := 9) _ rfl Tryz.func237 rfl rfl rfl fun g hg R hR => ?_
 refine S.seq <| S.region rfl <| O.q 1 rfl <| O.nil <| S.seq <| S.region rfl <| O.q 1 rfl <| O.op (.p rfl) (.eql rfl rfl) <| O.callP0 (.p rfl) rfl F.ok90 rfl rfl (imust_c _) (fun ch η' w hX hW => by (obtain ⟨hb, rfl, rfl⟩ := hX; exact hR _ _ w ⟨of_decide_eq_false hb, rfl, rfl⟩ hW.drop_all)) ?_
 rintro v7 _ ⟨hb7, rfl, rfl⟩
 try simp only [zx1, zx2, zx3]
 refine O.nil <| S.seq <| S.region rfl <| O.q 2 rfl <| O.nil ?_
 exact S.rt Tryz.results237 rfl hR ⟨of_decide_eq_true hb7, rfl, rfl⟩
theorem bput_c {r : Fr} {b T : Nat} {va : Value} {a : Option Addr} {c n : Nat} {cs : List Value} {out : List UInt8} {xss : List (List UInt8)} (ha : Arr (Rp.slice Rp.u8) r va xss) (hl : out.length + xss.flatten.length ≤ 140737488355328) (hn : n = out.length) :
  Con Tryz.prog 236 #[.pointer (some ⟨b, 0, none⟩), va] r [obj b T (.slice a n c :: cs), OwnP Rp.u8 5 (.slice a n c) out]
   (Ret fun v η => ∃ a' c', v = .tuple #[] ∧ η = [obj b T (.slice a' (out ++ xss.flatten).length c' :: cs), OwnP Rp.u8 5 (.slice a' (out ++ xss.flatten).length c') (out ++ xss.flatten)]) := by
 subst hn
 refine Con.of (n := 22) _ rfl Tryz.func236 rfl rfl rfl fun g hg R hR => ?_
 have ha := ha.mono hg
 have hbd := ha.bound
 obtain ⟨a1, c1, rfl⟩ := ha.shape
 refine S.seq <| S.region rfl <| O.q 1 rfl <| O.op (.p rfl) (.len rfl Tryz.underlying39 rfl) <| O.q 1 rfl <| O.nil <| S.block <| S.conv (B := OwnP Rp.u8 5 (.slice a out.length c) out) (C := OwnP Rp.u8 5 (.slice a (out ++ (xss.take 0).flatten).length c) (out ++ (xss.take 0).flatten)) (by repeat (first | exact zh | apply zt)) (fun m x => ⟨m, Fr.sub_refl _, by simpa using x⟩) ?_
 refine S.objIs (b := b) (cs' := .slice a (out ++ (xss.take 0).flatten).length c :: cs) (by repeat (first | exact zh | apply zt)) (by simp) ?_
 refine S.loopK2 (ι := Nat) (κ := Option Addr × Nat) (fun i p => i ≤ xss.length) (fun i p => [(8, .int .i64 (i : Int))]) [(0, _), (6, _), (7, _)] (fun i p => [obj b T (.slice p.1 (out ++ (xss.take i).flatten).length p.2 :: cs), OwnP Rp.u8 5 (.slice p.1 (out ++ (xss.take i).flatten).length p.2) (out ++ (xss.take i).flatten)]) (fun i p => xss.length - i) (0) ((a, c)) (by simp) (.cons rfl (.nil)) (.cons rfl (.cons rfl (.cons rfl (.nil)))) rfl fun i p hx ih => ?_
 have hm1 := meltRefl (g := g)
 refine S.seq <| S.region rfl <| O.op (.p rfl) (.lss rfl rfl) <| O.nil (S.seq ?_)
 first | refine S.condD rfl (fun h9 => ?_) (fun h9 => ?_) | refine S.condB rfl (fun h9 => ?_) (fun h9 => ?_)
 ·have hi : i < xss.length := by omega
  have h1 := flat_len xss i hi
  have h2 := flat_le xss (i + 1)
  have h3 : (xss.take (i + 1)).flatten.length = (xss.take i).flatten.length + xss[i].length := by rw [h1, List.length_append]
  have h4 : (out ++ (xss.take i).flatten).length = out.length + (xss.take i).flatten.length := List.length_append
  have htk : out ++ (xss.take i).flatten ++ xss[i] = out ++ (xss.take (i + 1)).flatten := by rw [h1, List.append_assoc]
  generalize hso : out ++ (xss.take i).flatten = so at htk h4 ⊢
  refine S.skip <| S.seq <| S.block <| S.seq <| S.region rfl <| O.ia (.p rfl) Tryz.underlying39 F.size31 rfl rfl rfl (by first | assumption | exact Arr.mono hg (by assumption) | exact Arr.left (by assumption) | exact Arr.left (Arr.mono hg (by assumption))) (h := fun p10 cs10 hp10 hr10 => ?_)
  obtain ⟨v10, rfl, ha10⟩ := hr10
  obtain ⟨a10, c10, rfl⟩ := ha10.shape
  refine O.op (.p rfl) (.loadAt F.flat31 rfl hp10 rfl) ?_
  refine O.q 1 rfl <| O.nil <| S.region rfl <| O.q 2 rfl <| O.op (.p rfl) (.nilCheck rfl) <| O.op (.p rfl) (.fieldObj F.fld183x0 rfl) <| O.op (.p rfl) (.lo F.flat31) ?_
  refine O.q 1 rfl <| O.opE (.p rfl) (.appendP (T := Rp.u8) pure_u8 Tryz.underlying31 F.elem5 (by decide) rfl rfl (by repeat (first | exact zh | apply zt)) (by first | assumption | exact Arr.mono hg (by assumption) | exact Arr.left (by assumption) | exact Arr.left (Arr.mono hg (by assumption))) (by first | omega | (simp; done) | (simp; omega) | decide) (by first | omega | (simp; done) | (simp; omega) | decide)) ?_
  rintro _ _ ⟨a18, c18, rfl, rfl⟩
  refine O.op (.p rfl) (.nilCheck rfl) <| O.op (.p rfl) (.fieldObj F.fld183x0 rfl) <| O.opU rfl (.store1 F.flat31 rfl rfl (by first | rfl | assumption) (by repeat (first | exact zh | apply zt)) (by first | (simp; done) | (simp [Value.cells]; done))) ?_
  refine O.nil <| S.inBlock <| S.region rfl <| O.op (.p rfl) (.add rfl rfl (IntWalk.i64_in _ (by omega))) <| O.q 1 rfl <| O.nil ?_
  rw [htk]
  refine S.objIs (b := b) (cs' := .slice a18 (out ++ (xss.take (i + 1)).flatten).length c18 :: cs) (by repeat (first | exact zh | apply zt)) (by rw [← htk, List.length_append]; rfl) ?_
  rw [← List.length_append, htk]
  exact S.pw (ih (i + 1) ((a18, c18)) (by omega) (by omega))
 ·clear ih
  have hi : i = xss.length := by omega
  subst hi
  rw [List.take_length]
  refine S.exit rfl <| S.end0 Tryz.results236 fun w hw => Holds.end_ hR hw ?_
  exact pk ⟨p.1, p.2, rfl, rfl⟩
theorem indexS_c {r : Fr} {va : Value} {l : List (List UInt8)} (x : List UInt8) (ha : Arr Rp.str r va l) :
  Con Tryz.prog 301 #[va, .string (str x)] r [] (Ret fun v η => ∃ k : Int, v = .int .i64 k ∧ (0 ≤ k ↔ x ∈ l) ∧ η = []) := by
 refine Con.of (n := 19) _ rfl Tryz.func301 rfl rfl rfl fun g hg R hR => ?_
 have ha := ha.mono hg
 have hbd := ha.bound
 obtain ⟨a1, c1, rfl⟩ := ha.shape
 refine S.seq <| S.region rfl <| O.q 1 rfl <| O.nil <| S.seq <| S.seq <| S.region rfl <| O.q 1 rfl <| O.op (.p rfl) (.len rfl Tryz.underlying184 rfl) <| O.q 1 rfl <| O.nil <| S.block <| S.loopK (ι := Nat) (fun i => i ≤ l.length ∧ x ∉ l.take i) (fun i => [(8, .int .i64 (i : Int))]) [(0, _), (1, _), (7, _)] (fun i => []) (fun i => l.length - i) (0) (by exact ⟨by simp, by simp⟩) (.cons rfl (.nil)) (.cons rfl (.cons rfl (.cons rfl (.nil)))) rfl fun i hx ih => ?_
 have hm1 := meltRefl (g := g)
 obtain ⟨hx1, hx2⟩ := hx
 refine S.seq <| S.region rfl <| O.op (.p rfl) (.lss rfl rfl) <| O.nil (S.seq ?_)
 first | refine S.condD rfl (fun h9 => ?_) (fun h9 => ?_) | refine S.condB rfl (fun h9 => ?_) (fun h9 => ?_)
 ·have hi : i < l.length := by omega
  by_cases e : x = l[i]
  ·
   clear ih
   refine S.skip <| S.seq <| S.block <| S.seq <| S.region rfl <| O.q 2 rfl <| O.nil <| S.seq <| S.region rfl <| O.q 3 rfl <| O.ia (.p rfl) Tryz.underlying184 F.size9 rfl rfl rfl (by first | assumption | exact Arr.mono hg (by assumption) | exact Arr.left (by assumption) | exact Arr.left (Arr.mono hg (by assumption))) (h := fun p14 cs14 hp14 hr14 => ?_)
   obtain ⟨rfl, hz14⟩ := hr14
   refine O.op (.p rfl) (.loadAt F.flat9 rfl hp14 rfl) ?_
   refine O.op (.p rfl) (.eqlS rfl rfl) <| O.sT 16 rfl (by simp [e]) ?_
   refine O.nil <| S.condT rfl <| S.seq <| S.region rfl <| O.q 2 rfl <| O.nil ?_
   exact S.rt Tryz.results301 rfl hR ⟨(i : Int), rfl, ⟨fun _ => e ▸ List.getElem_mem hi, fun _ => by omega⟩, rfl⟩
  ·
   refine S.skip <| S.seq <| S.block <| S.seq <| S.region rfl <| O.q 2 rfl <| O.nil <| S.seq <| S.region rfl <| O.q 3 rfl <| O.ia (.p rfl) Tryz.underlying184 F.size9 rfl rfl rfl (by first | assumption | exact Arr.mono hg (by assumption) | exact Arr.left (by assumption) | exact Arr.left (Arr.mono hg (by assumption))) (h := fun p14 cs14 hp14 hr14 => ?_)
   obtain ⟨rfl, hz14⟩ := hr14
   refine O.op (.p rfl) (.loadAt F.flat9 rfl hp14 rfl) ?_
   refine O.op (.p rfl) (.eqlS rfl rfl) <| O.sF 16 rfl (by simp [e]) ?_
   refine O.nil <| S.condF rfl <| S.skip <| S.inBlock <| S.region rfl <| O.op (.p rfl) (.add rfl rfl (IntWalk.i64_in _ (by omega))) <| O.q 1 rfl <| O.nil ?_
   exact S.wk (ih (i + 1) (by exact ⟨by omega, by rw [List.take_succ_eq_append_getElem hi, List.mem_append, List.mem_singleton]; exact fun q => q.elim hx2 e⟩) (by omega))
 ·clear ih
  have hi : i = l.length := by omega
  subst hi
  rw [List.take_length] at hx2
  refine S.exit rfl <| S.seq <| S.region rfl <| O.q 1 rfl <| O.nil ?_
  exact S.rt Tryz.results301 rfl hR ⟨-1, rfl, ⟨fun h => absurd h (by decide), fun h => absurd h hx2⟩, rfl⟩
theorem containsS_c {r : Fr} {va : Value} {l : List (List UInt8)} (x : List UInt8) (ha : Arr Rp.str r va l) :
  Con Tryz.prog 240 #[va, .string (str x)] r [] (Ret fun v η => v = .bool (decide (x ∈ l)) ∧ η = []) := by
 refine Con.of (n := 9) _ rfl Tryz.func240 rfl rfl rfl fun g hg R hR => ?_
 have ha := ha.mono hg
 obtain ⟨a1, c1, rfl⟩ := ha.shape
 refine S.seq <| S.region rfl <| O.q 1 rfl <| O.nil <| S.seq <| S.region rfl <| O.q 2 rfl <| O.call0 (.p rfl) rfl F.ok301 rfl rfl ((indexS_c x ha)) ?_
 rintro v7 _ ⟨k7, rfl, hk7, rfl⟩
 try simp only [zx1, zx2, zx3]
 refine O.op (.p rfl) (.geq rfl rfl) <| O.q 1 rfl <| O.nil ?_
 exact S.rt Tryz.results240 rfl hR ⟨congrArg _ (decide_eq_decide.2 hk7), rfl⟩
end Go.Proofs.YtodhbhanmdfdeaaGreat
end
section
/- Texts of this proof. -/
open Go Go.Sp
set_option maxRecDepth 100000
attribute [local irreducible] obj Own OwnP
namespace Go.Proofs.YtodhbhanmdfdeaaGreat
abbrev WrB (b : Nat) (s : WSt) : SProp := WrP 186 5 9 b s
def StepP {α : Type} (step : WSt → α → Option WSt) (b : Nat) (s : WSt) (x : α) : Ending → List SProp → Prop :=
 RetP (fun v η => v = .tuple #[] ∧ ∃ s', step s x = some s' ∧ η = [WrB b s']) (fun ch η => step s x = none ∧ ch = errP 32 4 ∧ η = [])
theorem leaf_c {r : Fr} {b : Nat} {s : WSt} {cs : List Value} {f : LeafT} (h : LeafRp.rel r cs f) (hl : f.2.1.length ≤ 100000) (hb : s.out.length ≤ 140000000000000) :
  Con Tryz.prog 146 #[.pointer (some ⟨b, 0, none⟩), .agg cs.toArray] r [WrB b s] (StepP leafStep b s f) := by
 obtain ⟨xa1, xc1, rfl, k0, k1⟩ := LeafRp.sh h
 have hset := k1
 refine Con.of (n := 55) _ rfl Tryz.func146 rfl rfl rfl fun g hg R hR => ?_
 have k1 := k1.mono hg
 refine S.seq <| S.region rfl <| O.opE (.p rfl) (.box (cs := [_, _]) rfl rfl) ?_
 rintro _ _ ⟨b3, rfl, rfl⟩
 refine O.nil <| S.seq <| S.frzO (by repeat (first | exact zh | apply zt)) fun g hs hm hb3 => ?_
 replace hg := Fr.sub_trans hg hs
 replace hR := melted hR hm
 try replace k1 := k1.mono hs
 clear hs hm
 refine S.open (A := WrB b s) (by repeat (first | exact zh | apply zt)) (fun m x => x) fun p => ?_
 simp only [List.cons_append, List.nil_append]
 have hg_o := hg
 have hR_o := hR
 try have k1_o := k1
 try have hb3_o := hb3
 refine S.frzH (B := obj b 186 [.slice p.1.1.1 s.out.length p.1.1.2, .string (str s.key), .int .i64 s.rep, .int .i64 s.shard, .int .i64 p.2.1, .slice p.2.2.1.1 p.2.2.1.2.1 p.2.2.1.2.2, .slice p.2.2.2.1 p.2.2.2.2.1 p.2.2.2.2.2, .int .i64 s.last, .slice p.1.2.1 s.seen.length p.1.2.2]) (by repeat (first | exact zh | apply zt)) fun go hso ⟨mo, hmo, hsmo⟩ hbo => ?_
 replace hg := Fr.sub_trans hg hso
 replace hR := backR hR hbo
 try replace k1 := k1.mono hso
 try replace hb3 := hb3.mono hso
 have hat := (obj_at hmo).mono hsmo
 by_cases c1 : ¬ s.key < f.1
 ·have hno : leafStep s f = none := if_neg fun q => c1 q.1
  refine S.regionD (L := [0, 1, 2, 3, 4, 5, 6, 7, 8, 9, 10, 11, 12, 13, 14, 15, 16, 17, 18, 19, 20, 21, 22, 23, 24, 25, 26, 27, 28, 29]) F.mixed (by kernel_rfl) ?_
  refine .quiet (.p rfl) rfl (fun _ => .fieldAddr F.fld49x0 rfl) <| .quiet (.p rfl) rfl (fun _ => .loadAt F.flat9 rfl hb3 rfl) ?_
  refine OD.q 1 rfl <| .quiet (.p rfl) rfl (fun _ => .nilCheck rfl) <| .quiet (.p rfl) rfl (fun _ => .fieldAddr F.fld186x1 rfl) <| .quiet (.p rfl) rfl (fun _ => .loadAt F.flat9 rfl (hat.drop 1) rfl) ?_
  refine .quiet (.p rfl) rfl (fun _ => .gtrS rfl rfl) <| OD.sF 10 rfl (by rw [gtrS_eq]; exact decide_eq_false c1) ?_
  refine OD.q 22 rfl <| OD.callP0 (.p rfl) (by kernel_rfl) rfl F.ok90 rfl rfl (imust_c _) (fun ch η' w hX hW => by (obtain ⟨hb, rfl, rfl⟩ := hX; exact hR _ _ w ⟨hno, rfl, rfl⟩ hW.drop_all)) ?_
  rintro v33 _ ⟨hb33, rfl, rfl⟩
  try simp only [zx1, zx2, zx3]
  exact absurd hb33 (by simp)
 replace c1 := Classical.not_not.1 c1
 by_cases c2 : 64 < f.1.length
 ·have hno : leafStep s f = none := if_neg fun q => by have := q.2.1; omega
  refine S.regionD (L := [0, 1, 2, 3, 4, 5, 6, 7, 8, 9, 10, 11, 12, 13, 14, 15, 16, 17, 18, 19, 20, 21, 22, 23, 24, 25, 26, 27, 28, 29]) F.mixed (by kernel_rfl) ?_
  refine .quiet (.p rfl) rfl (fun _ => .fieldAddr F.fld49x0 rfl) <| .quiet (.p rfl) rfl (fun _ => .loadAt F.flat9 rfl hb3 rfl) ?_
  refine OD.q 1 rfl <| .quiet (.p rfl) rfl (fun _ => .nilCheck rfl) <| .quiet (.p rfl) rfl (fun _ => .fieldAddr F.fld186x1 rfl) <| .quiet (.p rfl) rfl (fun _ => .loadAt F.flat9 rfl (hat.drop 1) rfl) ?_
  refine .quiet (.p rfl) rfl (fun _ => .gtrS rfl rfl) <| OD.sT 10 rfl (by rw [gtrS_eq]; exact decide_eq_true c1) ?_
  refine OD.q 1 rfl <| .quiet (.g rfl rfl) rfl (fun _ => .fieldAddr F.fld49x0 rfl) <| .quiet (.g rfl rfl) rfl (fun _ => .loadAt F.flat9 rfl hb3 rfl) ?_
  refine .quiet (.g rfl rfl) rfl (fun _ => .lenS rfl Tryz.underlying9 rfl) <| .quiet (.g rfl rfl) rfl (fun _ => .leq rfl rfl) <| OD.sF 15 rfl (by simp; omega) ?_
  refine OD.q 17 rfl <| OD.callP0 (.p rfl) (by kernel_rfl) rfl F.ok90 rfl rfl (imust_c _) (fun ch η' w hX hW => by (obtain ⟨hb, rfl, rfl⟩ := hX; exact hR _ _ w ⟨hno, rfl, rfl⟩ hW.drop_all)) ?_
  rintro v33 _ ⟨hb33, rfl, rfl⟩
  try simp only [zx1, zx2, zx3]
  exact absurd hb33 (by simp)
 by_cases c3 : f.2.1.length = 0
 ·have hno : leafStep s f = none := if_neg fun q => by obtain ⟨q, _⟩ := q.2.2.1; omega
  refine S.regionD (L := [0, 1, 2, 3, 4, 5, 6, 7, 8, 9, 10, 11, 12, 13, 14, 15, 16, 17, 18, 19, 20, 21, 22, 23, 24, 25, 26, 27, 28, 29]) F.mixed (by kernel_rfl) ?_
  refine .quiet (.p rfl) rfl (fun _ => .fieldAddr F.fld49x0 rfl) <| .quiet (.p rfl) rfl (fun _ => .loadAt F.flat9 rfl hb3 rfl) ?_
  refine OD.q 1 rfl <| .quiet (.p rfl) rfl (fun _ => .nilCheck rfl) <| .quiet (.p rfl) rfl (fun _ => .fieldAddr F.fld186x1 rfl) <| .quiet (.p rfl) rfl (fun _ => .loadAt F.flat9 rfl (hat.drop 1) rfl) ?_
  refine .quiet (.p rfl) rfl (fun _ => .gtrS rfl rfl) <| OD.sT 10 rfl (by rw [gtrS_eq]; exact decide_eq_true c1) ?_
  refine OD.q 1 rfl <| .quiet (.g rfl rfl) rfl (fun _ => .fieldAddr F.fld49x0 rfl) <| .quiet (.g rfl rfl) rfl (fun _ => .loadAt F.flat9 rfl hb3 rfl) ?_
  refine .quiet (.g rfl rfl) rfl (fun _ => .lenS rfl Tryz.underlying9 rfl) <| .quiet (.g rfl rfl) rfl (fun _ => .leq rfl rfl) <| OD.sT 15 rfl (by simp; omega) ?_
  refine OD.q 2 rfl <| .quiet (.g rfl rfl) rfl (fun _ => .fieldAddr F.fld49x1 rfl) <| .quiet (.g rfl rfl) rfl (fun _ => .loadAt F.flat47 rfl (hb3.drop 1) rfl) ?_
  refine .quiet (.g rfl rfl) rfl (fun _ => .len rfl Tryz.underlying47 rfl) <| .quiet (.g rfl rfl) rfl (fun _ => .gtr rfl rfl) <| OD.sF 21 rfl (by exact decide_eq_false (by omega)) ?_
  refine OD.q 11 rfl <| OD.callP0 (.p rfl) (by kernel_rfl) rfl F.ok90 rfl rfl (imust_c _) (fun ch η' w hX hW => by (obtain ⟨hb, rfl, rfl⟩ := hX; exact hR _ _ w ⟨hno, rfl, rfl⟩ hW.drop_all)) ?_
  rintro v33 _ ⟨hb33, rfl, rfl⟩
  try simp only [zx1, zx2, zx3]
  exact absurd hb33 (by simp)
 have h0 : 0 < f.2.1.length := by omega
 by_cases c4 : ¬ f.2.1[0].1 = f.1
 ·have hno : leafStep s f = none := if_neg fun q => by obtain ⟨_, q⟩ := q.2.2.1; exact c4 q
  refine S.regionD (L := [0, 1, 2, 3, 4, 5, 6, 7, 8, 9, 10, 11, 12, 13, 14, 15, 16, 17, 18, 19, 20, 21, 22, 23, 24, 25, 26, 27, 28, 29]) F.mixed (by kernel_rfl) ?_
  refine .quiet (.p rfl) rfl (fun _ => .fieldAddr F.fld49x0 rfl) <| .quiet (.p rfl) rfl (fun _ => .loadAt F.flat9 rfl hb3 rfl) ?_
  refine OD.q 1 rfl <| .quiet (.p rfl) rfl (fun _ => .nilCheck rfl) <| .quiet (.p rfl) rfl (fun _ => .fieldAddr F.fld186x1 rfl) <| .quiet (.p rfl) rfl (fun _ => .loadAt F.flat9 rfl (hat.drop 1) rfl) ?_
  refine .quiet (.p rfl) rfl (fun _ => .gtrS rfl rfl) <| OD.sT 10 rfl (by rw [gtrS_eq]; exact decide_eq_true c1) ?_
  refine OD.q 1 rfl <| .quiet (.g rfl rfl) rfl (fun _ => .fieldAddr F.fld49x0 rfl) <| .quiet (.g rfl rfl) rfl (fun _ => .loadAt F.flat9 rfl hb3 rfl) ?_
  refine .quiet (.g rfl rfl) rfl (fun _ => .lenS rfl Tryz.underlying9 rfl) <| .quiet (.g rfl rfl) rfl (fun _ => .leq rfl rfl) <| OD.sT 15 rfl (by simp; omega) ?_
  refine OD.q 2 rfl <| .quiet (.g rfl rfl) rfl (fun _ => .fieldAddr F.fld49x1 rfl) <| .quiet (.g rfl rfl) rfl (fun _ => .loadAt F.flat47 rfl (hb3.drop 1) rfl) ?_
  refine .quiet (.g rfl rfl) rfl (fun _ => .len rfl Tryz.underlying47 rfl) <| .quiet (.g rfl rfl) rfl (fun _ => .gtr rfl rfl) <| OD.sT 21 rfl (by exact decide_eq_true (by omega)) ?_
  refine OD.q 2 rfl <| .quiet (.g rfl rfl) rfl (fun _ => .fieldAddr F.fld49x1 rfl) <| .quiet (.g rfl rfl) rfl (fun _ => .loadAt F.flat47 rfl (hb3.drop 1) rfl) ?_
  refine OD.ia (.g rfl rfl) Tryz.underlying47 F.size74 rfl rfl (show _ = (((0) : Nat) : Int) by omega) (by first | assumption | exact Arr.mono hg (by assumption) | exact Arr.left (by assumption) | exact Arr.left (Arr.mono hg (by assumption))) (h := fun p26 cs26 hp26 hr26 => ?_)
  obtain ⟨ra3_26, ra5_26, ra6_26, rc3_26, rc5_26, rc6_26, rfl, ho0_26, ho1_26, ho2_26, ha3_26, ha5_26, ha6_26⟩ := RecRp.sh hr26
  refine .quiet (.g rfl rfl) rfl (fun _ => .fieldAddr F.fld74x0 rfl) <| .quiet (.g rfl rfl) rfl (fun _ => .loadAt F.flat9 rfl hp26 rfl) ?_
  refine .quiet (.g rfl rfl) rfl (fun _ => .fieldAddr F.fld49x0 rfl) <| .quiet (.g rfl rfl) rfl (fun _ => .loadAt F.flat9 rfl hb3 rfl) ?_
  refine .quiet (.g rfl rfl) rfl (fun _ => .eqlS rfl rfl) <| OD.sF 31 rfl (by simp; exact c4) ?_
  refine OD.q 1 rfl <| OD.callP0 (.p rfl) (by kernel_rfl) rfl F.ok90 rfl rfl (imust_c _) (fun ch η' w hX hW => by (obtain ⟨hb, rfl, rfl⟩ := hX; exact hR _ _ w ⟨hno, rfl, rfl⟩ hW.drop_all)) ?_
  rintro v33 _ ⟨hb33, rfl, rfl⟩
  try simp only [zx1, zx2, zx3]
  exact absurd hb33 (by simp)
 replace c4 := Classical.not_not.1 c4
 refine S.regionD (L := [0, 1, 2, 3, 4, 5, 6, 7, 8, 9, 10, 11, 12, 13, 14, 15, 16, 17, 18, 19, 20, 21, 22, 23, 24, 25, 26, 27, 28, 29]) F.mixed (by kernel_rfl) ?_
 refine .quiet (.p rfl) rfl (fun _ => .fieldAddr F.fld49x0 rfl) <| .quiet (.p rfl) rfl (fun _ => .loadAt F.flat9 rfl hb3 rfl) ?_
 refine OD.q 1 rfl <| .quiet (.p rfl) rfl (fun _ => .nilCheck rfl) <| .quiet (.p rfl) rfl (fun _ => .fieldAddr F.fld186x1 rfl) <| .quiet (.p rfl) rfl (fun _ => .loadAt F.flat9 rfl (hat.drop 1) rfl) ?_
 refine .quiet (.p rfl) rfl (fun _ => .gtrS rfl rfl) <| OD.sT 10 rfl (by rw [gtrS_eq]; exact decide_eq_true c1) ?_
 refine OD.q 1 rfl <| .quiet (.g rfl rfl) rfl (fun _ => .fieldAddr F.fld49x0 rfl) <| .quiet (.g rfl rfl) rfl (fun _ => .loadAt F.flat9 rfl hb3 rfl) ?_
 refine .quiet (.g rfl rfl) rfl (fun _ => .lenS rfl Tryz.underlying9 rfl) <| .quiet (.g rfl rfl) rfl (fun _ => .leq rfl rfl) <| OD.sT 15 rfl (by simp; omega) ?_
 refine OD.q 2 rfl <| .quiet (.g rfl rfl) rfl (fun _ => .fieldAddr F.fld49x1 rfl) <| .quiet (.g rfl rfl) rfl (fun _ => .loadAt F.flat47 rfl (hb3.drop 1) rfl) ?_
 refine .quiet (.g rfl rfl) rfl (fun _ => .len rfl Tryz.underlying47 rfl) <| .quiet (.g rfl rfl) rfl (fun _ => .gtr rfl rfl) <| OD.sT 21 rfl (by exact decide_eq_true (by omega)) ?_
 refine OD.q 2 rfl <| .quiet (.g rfl rfl) rfl (fun _ => .fieldAddr F.fld49x1 rfl) <| .quiet (.g rfl rfl) rfl (fun _ => .loadAt F.flat47 rfl (hb3.drop 1) rfl) ?_
 refine OD.ia (.g rfl rfl) Tryz.underlying47 F.size74 rfl rfl (show _ = (((0) : Nat) : Int) by omega) (by first | assumption | exact Arr.mono hg (by assumption) | exact Arr.left (by assumption) | exact Arr.left (Arr.mono hg (by assumption))) (h := fun p26 cs26 hp26 hr26 => ?_)
 obtain ⟨ra3_26, ra5_26, ra6_26, rc3_26, rc5_26, rc6_26, rfl, ho0_26, ho1_26, ho2_26, ha3_26, ha5_26, ha6_26⟩ := RecRp.sh hr26
 refine .quiet (.g rfl rfl) rfl (fun _ => .fieldAddr F.fld74x0 rfl) <| .quiet (.g rfl rfl) rfl (fun _ => .loadAt F.flat9 rfl hp26 rfl) ?_
 refine .quiet (.g rfl rfl) rfl (fun _ => .fieldAddr F.fld49x0 rfl) <| .quiet (.g rfl rfl) rfl (fun _ => .loadAt F.flat9 rfl hb3 rfl) ?_
 refine .quiet (.g rfl rfl) rfl (fun _ => .eqlS rfl rfl) <| OD.sT 31 rfl (by simp [c4]) ?_
 refine OD.q 1 rfl <| OD.callP0 (.p rfl) (by kernel_rfl) rfl F.ok90 rfl rfl (imust_c _) (fun ch η' w hX hW => by (exact absurd hX.1 (by simp))) ?_
 rintro v33 _ ⟨hb33, rfl, rfl⟩
 try simp only [zx1, zx2, zx3]
 refine ODx.nil <| S.seq <| S.back hbo ?_
 replace hg := hg_o
 replace hR := hR_o
 try replace k1 := k1_o
 try replace hb3 := hb3_o
 clear hg_o hR_o
 refine S.region rfl <| O.q 1 rfl <| O.op (.p rfl) (.fieldAddr F.fld49x0 rfl) <| O.op (.p rfl) (.loadAt F.flat9 rfl hb3 rfl) ?_
 refine O.op (.p rfl) (.nilCheck rfl) <| O.op (.p rfl) (.fieldObj F.fld186x1 rfl) <| O.opU rfl (.store1 F.flat9 rfl rfl (by first | rfl | assumption) (by repeat (first | exact zh | apply zt)) (by first | (simp; done) | (simp [Value.cells]; done))) ?_
 refine O.nil ?_
 by_cases c5 : ¬ SRight f.2.1
 ·have hno : leafStep s f = none := if_neg fun q => c5 q.2.2.2
  have e5 : sErr f.2.1 = 4 := if_neg c5
  refine S.regionD (L := [0, 1, 2, 3, 4, 7, 8, 5, 6, 9, 10, 11, 12, 13, 14, 15]) F.mixed (by kernel_rfl) ?_
  refine OD.q 1 rfl <| .quiet (.p rfl) rfl (fun _ => .nilCheck rfl) <| .quiet (.p rfl) rfl (fun _ => .fieldObj F.fld186x0 rfl) <| .quiet (.p rfl) rfl (fun _ => .fieldAddr F.fld49x0 rfl) <| .quiet (.p rfl) rfl (fun _ => .loadAt F.flat9 rfl hb3 rfl) ?_
  refine .quiet (.p rfl) rfl (fun _ => .fieldAddr F.fld49x1 rfl) <| .quiet (.p rfl) rfl (fun _ => .loadAt F.flat47 rfl (hb3.drop 1) rfl) ?_
  refine OD.strBytesO (.p rfl) (by kernel_rfl) Tryz.underlying9 Tryz.underlying31 Tryz.underlying5 rfl (by first | assumption | omega | (simp; done) | (simp; omega)) (fun a44 c44 => ?_)
  refine OD.callB (.p rfl) (by kernel_rfl) rfl F.ok119 rfl rfl (bs := [OwnP Rp.u8 5 (.slice a44 f.1.length c44) f.1]) (by repeat (first | exact zsn | (apply zsc; focus (repeat (first | exact zh | apply zt))))) (fun m hm hd => wBytes_c (hm.arr.right hd) (by omega)) ?_
  rintro v45 _ ⟨a45, c45, rfl, rfl⟩
  try simp only [zx1, zx2, zx3]
  refine OD.call0 (.p rfl) (by kernel_rfl) rfl F.ok43 rfl rfl (sPut_c (by first | assumption | exact Arr.mono hg (by assumption) | exact Arr.left (by assumption) | exact Arr.left (Arr.mono hg (by assumption))) (by first | omega | (simp; done) | (simp; omega) | decide)) ?_
  rintro v48 _ ⟨a48, c48, rfl, rfl⟩
  try simp only [zx1, zx2, zx3]
  refine OD.q 2 rfl <| OD.callP0 (.p rfl) (by kernel_rfl) rfl F.ok237 rfl rfl (told_c) (fun ch η' w hX hW => by (obtain ⟨hb, rfl, rfl⟩ := hX; exact hR _ _ w ⟨hno, rfl, rfl⟩ hW.drop_all)) ?_
  rintro v51 _ ⟨hb51, rfl, rfl⟩
  try simp only [zx1, zx2, zx3]
  exact absurd hb51 (by rw [e5]; decide)
 replace c5 := Classical.not_not.1 c5
 have e5 : sOut f.2.1 = sB f.2.1 := if_pos c5
 have hyes : leafStep s f = some { s with key := f.1, out := s.out ++ (bytesOf f.1 ++ bytesOf (sB f.2.1)) } := if_pos ⟨c1, by omega, ⟨h0, c4⟩, c5⟩
 have hbd := sB_le c5.1
 have hfl : [bytesOf f.1, bytesOf (sB f.2.1)].flatten = bytesOf f.1 ++ bytesOf (sB f.2.1) := by simp
 refine S.regionD (L := [0, 1, 2, 3, 4, 7, 8, 5, 6, 9, 10, 11, 12, 13, 14, 15]) F.mixed (by kernel_rfl) ?_
 refine OD.q 1 rfl <| .quiet (.p rfl) rfl (fun _ => .nilCheck rfl) <| .quiet (.p rfl) rfl (fun _ => .fieldObj F.fld186x0 rfl) <| .quiet (.p rfl) rfl (fun _ => .fieldAddr F.fld49x0 rfl) <| .quiet (.p rfl) rfl (fun _ => .loadAt F.flat9 rfl hb3 rfl) ?_
 refine .quiet (.p rfl) rfl (fun _ => .fieldAddr F.fld49x1 rfl) <| .quiet (.p rfl) rfl (fun _ => .loadAt F.flat47 rfl (hb3.drop 1) rfl) ?_
 refine OD.strBytesO (.p rfl) (by kernel_rfl) Tryz.underlying9 Tryz.underlying31 Tryz.underlying5 rfl (by first | assumption | omega | (simp; done) | (simp; omega)) (fun a44 c44 => ?_)
 refine OD.callB (.p rfl) (by kernel_rfl) rfl F.ok119 rfl rfl (bs := [OwnP Rp.u8 5 (.slice a44 f.1.length c44) f.1]) (by repeat (first | exact zsn | (apply zsc; focus (repeat (first | exact zh | apply zt))))) (fun m hm hd => wBytes_c (hm.arr.right hd) (by omega)) ?_
 rintro v45 _ ⟨a45, c45, rfl, rfl⟩
 try simp only [zx1, zx2, zx3]
 refine OD.call0 (.p rfl) (by kernel_rfl) rfl F.ok43 rfl rfl ((sPut_c k1 (by omega))) ?_
 rintro v48 _ ⟨a48, c48, rfl, rfl⟩
 try simp only [zx1, zx2, zx3]
 rw [e5]
 refine OD.q 2 rfl <| OD.callP0 (.p rfl) (by kernel_rfl) rfl F.ok237 rfl rfl (told_c) (fun ch η' w hX hW => by (exact absurd (if_pos c5) hX.1)) ?_
 rintro v51 _ ⟨hb51, rfl, rfl⟩
 try simp only [zx1, zx2, zx3]
 refine OD.callB (.p rfl) (by kernel_rfl) rfl F.ok119 rfl rfl (bs := [OwnP Rp.u8 5 (.slice a48 (sB f.2.1).length c48) (sB f.2.1)]) (by repeat (first | exact zsn | (apply zsc; focus (repeat (first | exact zh | apply zt))))) (fun m hm hd => wBytes_c (hm.arr.right hd) (by omega)) ?_
 rintro v52 _ ⟨a52, c52, rfl, rfl⟩
 try simp only [zx1, zx2, zx3]
 refine OD.litP (T := Rp.val) (ys := [_, _]) (.p rfl) (by kernel_rfl) Tryz.underlying39 F.elem31 (by decide) rfl rfl ⟨⟨rfl, rfl⟩, ⟨rfl, rfl⟩, trivial⟩ (by decide) (fun a53 c53 => ?_)
 refine OD.callSs (.p rfl) (by kernel_rfl) rfl F.ok236 rfl rfl (by repeat (first | exact zsn | (apply zsc; focus (repeat (first | exact zh | apply zt))))) (Con.lentW (η := [obj b 186 [.slice p.1.1.1 s.out.length p.1.1.2, .string (str f.1), .int .i64 s.rep, .int .i64 s.shard, .int .i64 p.2.1, .slice p.2.2.1.1 p.2.2.1.2.1 p.2.2.1.2.2, .slice p.2.2.2.1 p.2.2.2.2.1 p.2.2.2.2.2, .int .i64 s.last, .slice p.1.2.1 s.seen.length p.1.2.2], OwnP Rp.u8 5 (.slice p.1.1.1 s.out.length p.1.1.2) s.out]) (bs := [OwnP Rp.val 31 (.slice a53 2 c53) [.slice a45 (bytesOf f.1).length c45, .slice a52 (bytesOf (sB f.2.1)).length c52], OwnP Rp.u8 5 (.slice a45 (bytesOf f.1).length c45) (bytesOf f.1), OwnP Rp.u8 5 (.slice a52 (bytesOf (sB f.2.1)).length c52) (bytesOf (sB f.2.1))]) (fun m hm hd => bput_c (xss := [bytesOf f.1, bytesOf (sB f.2.1)]) ((hm.arr.right hd).rows ⟨hm.tail.arr.right hd, hm.tail.tail.arr.right hd, trivial⟩) (by rw [hfl]; simp; omega) rfl)) ?_
 rintro v54 _ ⟨_, ⟨a54, c54, rfl, rfl⟩, rfl⟩
 try simp only [zx1, zx2, zx3]
 rw [hfl]
 refine ODx.nil <| S.foldS (A := WrB b { s with key := f.1, out := s.out ++ (bytesOf f.1 ++ bytesOf (sB f.2.1)) }) (bs := [obj b 186 [.slice a54 (s.out ++ (bytesOf f.1 ++ bytesOf (sB f.2.1))).length c54, .string (str f.1), .int .i64 s.rep, .int .i64 s.shard, .int .i64 p.2.1, .slice p.2.2.1.1 p.2.2.1.2.1 p.2.2.1.2.2, .slice p.2.2.2.1 p.2.2.2.2.1 p.2.2.2.2.2, .int .i64 s.last, .slice p.1.2.1 s.seen.length p.1.2.2], OwnP Rp.u8 5 (.slice a54 (s.out ++ (bytesOf f.1 ++ bytesOf (sB f.2.1))).length c54) (s.out ++ (bytesOf f.1 ++ bytesOf (sB f.2.1))), OwnP Rp.str 9 (.slice p.1.2.1 s.seen.length p.1.2.2) s.seen]) (by repeat (first | exact zsn | (apply zsc; focus (repeat (first | exact zh | apply zt))))) (fun m x => ⟨(((a54, c54), p.1.2), p.2), x⟩) ?_
 refine S.end0 Tryz.results146 fun w hw => Holds.end_ hR hw ?_
 exact pk ⟨rfl, _, hyes, rfl⟩
end Go.Proofs.YtodhbhanmdfdeaaGreat
end
