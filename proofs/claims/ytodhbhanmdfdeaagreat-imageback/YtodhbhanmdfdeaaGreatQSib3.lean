/- Texts of this proof, one behind the other. -/
import Derived.Test.YtodhbhanmdfdeaaGreatQFc
import Derived.Test.YtodhbhanmdfdeaaGreatQSib1
import Derived.Test.YtodhbhanmdfdeaaGreatQSpAuto
section
/- Texts of this proof. -/
open Go Go.Sp
set_option maxRecDepth 100000
attribute [local irreducible] obj Own OwnP
namespace Go.Proofs.YtodhbhanmdfdeaaGreat
theorem indexIt_c {r : Fr} {va : Value} {xs : List RecT} {f : FuncId} {first cap : Array Value} (ha : Arr ItRp r va xs) (hc : callable Tryz.prog f = true) (q : RecT → Bool)
  (con : ∀ cs x, x ∈ xs → ItRp.rel r cs x → Con Tryz.prog f (first ++ #[.agg cs.toArray] ++ cap) r [] (Ret fun v η => v = .bool (q x) ∧ η = [])) :
  Con Tryz.prog 323 #[va, .func (.func f) first cap] r [] (Ret fun v η => ∃ k : Int, v = .int .i64 k ∧ (0 ≤ k ↔ xs.any q = true) ∧ η = []) := by
 have har := ha
 refine Con.of (n := 19) [va, .func (.func f) first cap] rfl Tryz.func323 rfl rfl rfl fun g hg R hR => ?_
 have ha := ha.mono hg
 have hbd := ha.bound
 obtain ⟨a1, c1, rfl⟩ := ha.shape
 refine S.seq <| S.region rfl <| O.q 1 rfl <| O.nil <| S.seq <| S.seq <| S.region rfl <| O.q 1 rfl <| O.op (.p rfl) (.len rfl Tryz.underlying146 rfl) <| O.q 1 rfl <| O.nil <| S.block <| S.loopK (ι := Nat) (fun i => i ≤ xs.length ∧ (xs.take i).any q = false) (fun i => [(8, .int .i64 (i : Int))]) [(0, _), (1, _), (7, _)] (fun i => []) (fun i => xs.length - i) (0) (by exact ⟨by simp, by simp⟩) (.cons rfl (.nil)) (.cons rfl (.cons rfl (.cons rfl (.nil)))) rfl fun i hx ih => ?_
 have hm1 := meltRefl (g := g)
 obtain ⟨hx1, hx2⟩ := hx
 refine S.seq <| S.region rfl <| O.op (.p rfl) (.lss rfl rfl) <| O.nil (S.seq ?_)
 first | refine S.condD rfl (fun h9 => ?_) (fun h9 => ?_) | refine S.condB rfl (fun h9 => ?_) (fun h9 => ?_)
 ·have hi : i < xs.length := by omega
  cases e : q xs[i] with
  | true =>
   have hy : xs.any q = true := List.any_eq_true.2 ⟨xs[i], List.getElem_mem hi, e⟩
   clear ih
   refine S.skip <| S.seq <| S.block <| S.seq <| S.region rfl <| O.q 2 rfl <| O.nil <| S.seq <| S.region rfl <| O.q 3 rfl <| O.ib (.p rfl) Tryz.underlying146 F.size158 rfl rfl rfl har hg (h := fun p14 cs14 hp14 hrr14 => ?_)
   have hr14 := Rp.rel.mono hrr14 hg
   obtain ⟨ia3_14, ia5_14, ia6_14, ia7_14, ic3_14, ic5_14, ic6_14, ic7_14, rfl, hr1_14, ha7_14⟩ := ItRp.sh hr14
   refine O.op (.p rfl) (.loadAgg Tryz.isAgg158 (by kernel_rfl) rfl hp14) ?_
   refine O.call0 (.p rfl) rfl hc rfl rfl (((con _ _ (List.getElem_mem hi) hrr14).sub hg)) ?_
   rintro v16 _ ⟨rfl, rfl⟩
   try simp only [zx1, zx2, zx3]
   refine O.sT 16 rfl (by exact e) ?_
   refine O.nil <| S.condT rfl <| S.seq <| S.region rfl <| O.q 2 rfl <| O.nil ?_
   exact S.rt Tryz.results323 rfl hR ⟨(i : Int), rfl, ⟨fun _ => hy, fun _ => by omega⟩, rfl⟩
  | false =>
   refine S.skip <| S.seq <| S.block <| S.seq <| S.region rfl <| O.q 2 rfl <| O.nil <| S.seq <| S.region rfl <| O.q 3 rfl <| O.ib (.p rfl) Tryz.underlying146 F.size158 rfl rfl rfl har hg (h := fun p14 cs14 hp14 hrr14 => ?_)
   have hr14 := Rp.rel.mono hrr14 hg
   obtain ⟨ia3_14, ia5_14, ia6_14, ia7_14, ic3_14, ic5_14, ic6_14, ic7_14, rfl, hr1_14, ha7_14⟩ := ItRp.sh hr14
   refine O.op (.p rfl) (.loadAgg Tryz.isAgg158 (by kernel_rfl) rfl hp14) ?_
   refine O.call0 (.p rfl) rfl hc rfl rfl (((con _ _ (List.getElem_mem hi) hrr14).sub hg)) ?_
   rintro v16 _ ⟨rfl, rfl⟩
   try simp only [zx1, zx2, zx3]
   refine O.sF 16 rfl (by exact e) ?_
   refine O.nil <| S.condF rfl <| S.skip <| S.inBlock <| S.region rfl <| O.op (.p rfl) (.add rfl rfl (IntWalk.i64_in _ (by omega))) <| O.q 1 rfl <| O.nil ?_
   exact S.wk (ih (i + 1) (by exact ⟨by omega, by rw [List.take_succ_eq_append_getElem hi, List.any_append, hx2]; simp [e]⟩) (by omega))
 ·clear ih
  have hi : i = xs.length := by omega
  subst hi
  rw [List.take_length] at hx2
  refine S.exit rfl <| S.seq <| S.region rfl <| O.q 1 rfl <| O.nil ?_
  exact S.rt Tryz.results323 rfl hR ⟨-1, rfl, ⟨fun h => absurd h (by decide), fun h => by rw [hx2] at h; cases h⟩, rfl⟩
theorem containsIt_c {r : Fr} {va : Value} {xs : List RecT} {f : FuncId} {first cap : Array Value} (ha : Arr ItRp r va xs) (hc : callable Tryz.prog f = true) (q : RecT → Bool)
  (con : ∀ cs x, x ∈ xs → ItRp.rel r cs x → Con Tryz.prog f (first ++ #[.agg cs.toArray] ++ cap) r [] (Ret fun v η => v = .bool (q x) ∧ η = [])) (h1 : (Value.func (.func f) first cap).oneCell' = true) :
  Con Tryz.prog 283 #[va, .func (.func f) first cap] r [] (Ret fun v η => v = .bool (xs.any q) ∧ η = []) := by
 refine Con.of (n := 9) [va, .func (.func f) first cap] rfl Tryz.func283 rfl rfl rfl fun g hg R hR => ?_
 refine S.seq <| S.region rfl <| O.q 1 rfl <| O.nil <| S.seq <| S.region rfl <| O.q 2 rfl <| O.call0 (.p rfl) rfl F.ok323 rfl rfl (((indexIt_c ha hc q con).sub hg)) ?_
 rintro v7 _ ⟨k7, rfl, hk7, rfl⟩
 try simp only [zx1, zx2, zx3]
 refine O.op (.p rfl) (.geq rfl rfl) <| O.q 1 rfl <| O.nil ?_
 exact S.rt Tryz.results283 rfl hR ⟨congrArg _ (by rw [Bool.eq_iff_iff, decide_eq_true_iff]; exact hk7), rfl⟩
theorem under1_c {r : Fr} {b : Nat} {cs ds : List Value} {x y : RecT} (hx : At r ⟨b, 0, none⟩ cs) (h : ItRp.rel r cs x) (h' : ItRp.rel r ds y) :
  Con Tryz.prog 284 (#[] ++ #[.agg ds.toArray] ++ #[.pointer (some ⟨b, 0, none⟩)]) r [] (Ret fun v η => v = .bool (decide (cmpR x y ≠ 0) && over y x) ∧ η = []) := by
 obtain ⟨xa3, xa5, xa6, xa7, xc3, xc5, xc6, xc7, rfl, hx1, _⟩ := ItRp.sh h
 obtain ⟨ya3, ya5, ya6, ya7, yc3, yc5, yc6, yc7, rfl, hy1, _⟩ := ItRp.sh h'
 refine Con.of (n := 15) [.agg #[.string (str y.1), .int .i64 y.2.1, .int .i64 y.2.2.1, .slice ya3 y.2.2.2.1.length yc3, .bool y.2.2.2.2.1, .slice ya5 y.2.2.2.2.2.1.length yc5, .slice ya6 y.2.2.2.2.2.2.1.length yc6, .slice ya7 (recB y).length yc7], .pointer (some ⟨b, 0, none⟩)] rfl Tryz.func284 rfl rfl rfl fun g hg R hR => ?_
 have hx := hx.mono hg
 have h := h.mono hg
 have h' := h'.mono hg
 have hx1 := hx1.mono hg
 have hy1 := hy1.mono hg
 by_cases e : cmpR x y = 0
 ·
  refine S.seq <| S.region rfl <| O.opE (.p rfl) (.box (cs := [_, _, _, _, _, _, _, _]) rfl rfl) ?_
  rintro _ _ ⟨b2, rfl, rfl⟩
  refine O.q 1 rfl <| O.nil <| S.seq <| S.region rfl <| O.op (.p rfl) (.loadAgg Tryz.isAgg158 (by kernel_rfl) rfl hx) ?_
  refine O.op (.p rfl) (.loA (news := [_, _, _, _, _, _, _, _]) Tryz.isAgg158) ?_
  refine O.call0 (.p rfl) rfl F.ok208 rfl rfl (scompare_c h h') ?_
  rintro v6 _ ⟨rfl, rfl⟩
  try simp only [zx1, zx2, zx3]
  refine O.op (.p rfl) (.neq rfl rfl) <| O.sF 7 rfl (by simp [e]) ?_
  refine O.q 8 rfl <| O.nil ?_
  exact S.rt Tryz.results284 rfl hR ⟨by simp [e], rfl⟩
 ·
  refine S.seq <| S.region rfl <| O.opE (.p rfl) (.box (cs := [_, _, _, _, _, _, _, _]) rfl rfl) ?_
  rintro _ _ ⟨b2, rfl, rfl⟩
  refine O.q 1 rfl <| O.nil <| S.seq <| S.region rfl <| O.op (.p rfl) (.loadAgg Tryz.isAgg158 (by kernel_rfl) rfl hx) ?_
  refine O.op (.p rfl) (.loA (news := [_, _, _, _, _, _, _, _]) Tryz.isAgg158) ?_
  refine O.call0 (.p rfl) rfl F.ok208 rfl rfl (scompare_c h h') ?_
  rintro v6 _ ⟨rfl, rfl⟩
  try simp only [zx1, zx2, zx3]
  refine O.op (.p rfl) (.neq rfl rfl) <| O.sT 7 rfl (by simp [e]) ?_
  refine O.q 1 rfl <| O.op (.g rfl rfl) (.fieldObj F.fld158x0 rfl) <| O.op (.g rfl rfl) (.loA (news := [_, _, _, _, _, _, _]) Tryz.isAgg74) ?_
  refine O.op (.g rfl rfl) (.fieldAddr F.fld158x0 rfl) <| O.op (.g rfl rfl) (.loadAgg (cs := [.string (str x.1), .int .i64 x.2.1, .int .i64 x.2.2.1, .slice xa3 x.2.2.2.1.length xc3, .bool x.2.2.2.2.1, .slice xa5 x.2.2.2.2.2.1.length xc5, .slice xa6 x.2.2.2.2.2.2.1.length xc6]) Tryz.isAgg74 (by kernel_rfl) rfl (hx.take 7)) ?_
  refine O.call0 (.g rfl rfl) rfl F.ok48 rfl rfl (rOver_c hy1 hx1) ?_
  rintro v13 _ ⟨rfl, rfl⟩
  try simp only [zx1, zx2, zx3]
  refine O.q 2 rfl <| O.nil ?_
  exact S.rt Tryz.results284 rfl hR ⟨by simp [e], rfl⟩
end Go.Proofs.YtodhbhanmdfdeaaGreat
end
section
/- Texts of this proof. -/
open Go Go.Sp
set_option maxRecDepth 100000
attribute [local irreducible] obj Own OwnP
namespace Go.Proofs.YtodhbhanmdfdeaaGreat
theorem sunder_c {r : Fr} {b : Nat} {xs : List RecT} {cs : List Value} {x : RecT} (hrow : RowA r b xs) (h : ItRp.rel r cs x) :
  Con Tryz.prog 212 #[.pointer (some ⟨b, 0, none⟩), .agg cs.toArray] r [] (Ret fun v η => v = .bool (underR xs x) ∧ η = []) := by
 obtain ⟨xa3, xa5, xa6, xa7, xc3, xc5, xc6, xc7, rfl, hx1, _⟩ := ItRp.sh h
 obtain ⟨qa, qc, hat, har⟩ := hrow
 refine Con.of (n := 11) _ rfl Tryz.func212 rfl rfl rfl fun g hg R hR => ?_
 have h := h.mono hg
 have hat := hat.mono hg
 have har := har.mono hg
 refine S.seq <| S.region rfl <| O.opE (.p rfl) (.box (cs := [_, _, _, _, _, _, _, _]) rfl rfl) ?_
 rintro _ _ ⟨b3, rfl, rfl⟩
 refine O.q 1 rfl <| O.nil <| S.seq <| S.frzO (by repeat (first | exact zh | apply zt)) fun g hs hm hb3 => ?_
 replace hg := Fr.sub_trans hg hs
 replace hR := melted hR hm
 try replace h := h.mono hs
 try replace hat := hat.mono hs
 try replace har := har.mono hs
 clear hs hm
 refine S.region rfl <| O.q 1 rfl <| O.op (.p rfl) (.nilCheck rfl) <| O.op (.p rfl) (.fieldAddr F.fld148x0 rfl) <| O.op (.p rfl) (.loadAt F.flat146 rfl hat rfl) ?_
 refine O.op (.p rfl) (.mkFunc rfl rfl) <| O.call0 (.p rfl) rfl F.ok283 rfl rfl ((containsIt_c har F.ok284 (fun y => decide (cmpR x y ≠ 0) && over y x) (fun cs y hy hr => under1_c hb3 h hr) rfl)) ?_
 rintro v10 _ ⟨rfl, rfl⟩
 try simp only [zx1, zx2, zx3]
 refine O.q 1 rfl <| O.nil ?_
 exact S.rt Tryz.results212 rfl hR ⟨rfl, rfl⟩
theorem rowOf_c {r : Fr} {va : Value} {xs : List RecT} (ha : Arr RecRp r va xs) (hl : xs.length ≤ 100000000000) :
  Con Tryz.prog 116 #[va] r [] (RetP (fun v η => SRight xs ∧ ∃ b, v = .pointer (some ⟨b, 0, none⟩) ∧ η = [RowP r 148 158 5 b xs]) (fun ch η => ¬ SRight xs ∧ ch = shp ∧ η = [])) := by
 have har := ha
 refine Con.of (n := 45) _ rfl Tryz.func116 rfl rfl rfl fun g hg R hR => ?_
 have ha := ha.mono hg
 obtain ⟨a1, c1, rfl⟩ := ha.shape
 refine S.seq <| S.region rfl <| O.q 1 rfl <| O.nil <| S.seq <| S.region rfl <| O.op (.p rfl) (.build (cs := [_]) Tryz.underlying148 rfl rfl rfl rfl rfl) <| O.opE (.p rfl) (.box (cs := [_]) rfl rfl) ?_
 rintro _ _ ⟨b7, rfl, rfl⟩
 refine O.q 1 rfl <| O.nil <| S.seq <| S.conv (B := obj b7 148 [.slice none 0 0]) (C := RowP r 148 158 5 b7 []) (by repeat (first | exact zh | apply zt)) (fun m x => ⟨m, Fr.sub_refl _, RowP.nil x⟩) ?_
 refine S.region rfl <| O.q 2 rfl <| O.callPS (.p rfl) rfl F.ok104 rfl rfl (by repeat (first | exact zh | apply zt)) ((sadd_c har rfl (by simpa using hl)).sub hg) (fun ch η' w hX hW => by (obtain ⟨hb, rfl, rfl⟩ := hX; exact hR _ _ w ⟨fun q => (by rw [List.nil_append, q.1] at hb; cases hb), rfl, rfl⟩ hW.drop_all)) ?_
 rintro v10 _ ⟨hone, rfl, rfl⟩
 try simp only [zx1, zx2, zx3]
 refine O.nil (S.seq (S.seq ?_))
 rw [List.nil_append] at hone
 have hg_q := hg
 have hR_q := hR
 try have ha_q := ha
 refine S.frzH (B := RowP r 148 158 5 b7 xs) (by repeat (first | exact zh | apply zt)) fun gq hsq ⟨mq, hmq, hsmq⟩ hbq => ?_
 replace hg := Fr.sub_trans hg hsq
 replace hR := backR hR hbq
 try replace ha := ha.mono hsq
 have hrow := RowP.read hg hsmq hmq
 obtain ⟨qa, qc, hqat, hqar⟩ := id hrow
 refine S.region rfl <| O.q 1 rfl <| O.op (.p rfl) (.nilCheck rfl) <| O.op (.p rfl) (.fieldAddr F.fld148x0 rfl) <| O.op (.p rfl) (.loadAt F.flat146 rfl hqat rfl) ?_
 refine O.op (.p rfl) (.len rfl Tryz.underlying146 rfl) <| O.q 1 rfl <| O.nil <| S.block <| S.loopK (ι := Nat) (fun i => i ≤ xs.length ∧ ∀ j (h : j < xs.length), j < i → (∀ h0 : 0 < j, cmpR xs[j-1] xs[j] < 0) ∧ underR xs xs[j] = false) (fun i => [(16, .int .i64 (i : Int))]) [(3, _), (14, _), (15, _)] (fun i => []) (fun i => xs.length - i) (0) (by exact ⟨by simp, fun j _ h => absurd h (by omega)⟩) (.cons rfl (.nil)) (.cons rfl (.cons rfl (.cons rfl (.nil)))) rfl fun i hx ih => ?_
 have hm1 := meltRefl (g := gq)
 obtain ⟨hx1, hx2⟩ := hx
 refine S.seq <| S.region rfl <| O.op (.p rfl) (.lss rfl rfl) <| O.nil (S.seq ?_)
 first | refine S.condD rfl (fun h17 => ?_) (fun h17 => ?_) | refine S.condB rfl (fun h17 => ?_) (fun h17 => ?_)
 ·have hi : i < xs.length := by omega
  have hnext : ((∀ h0 : 0 < i, cmpR xs[i-1] xs[i] < 0) ∧ underR xs xs[i] = false) → ∀ j (h : j < xs.length), j < i + 1 → (∀ h0 : 0 < j, cmpR xs[j-1] xs[j] < 0) ∧ underR xs xs[j] = false := by
   intro q j h hj
   by_cases e : j = i
   ·subst e; exact q
   ·exact hx2 j h (by omega)
  refine S.skip <| S.seq <| S.block <| S.seq <| S.region rfl <| O.q 1 rfl <| O.ia (.p rfl) Tryz.underlying146 F.size158 rfl rfl rfl (by first | assumption | exact Arr.mono hg (by assumption) | exact Arr.left (by assumption) | exact Arr.left (Arr.mono hg (by assumption))) (h := fun p19 cs19 hp19 hr19 => ?_)
  obtain ⟨ia3_19, ia5_19, ia6_19, ia7_19, ic3_19, ic5_19, ic6_19, ic7_19, rfl, hr1_19, ha7_19⟩ := ItRp.sh hr19
  refine O.op (.p rfl) (.loadAgg Tryz.isAgg158 (by kernel_rfl) rfl hp19) ?_
  refine O.opE (.p rfl) (.alloc (cs := [.string ⟨#[]⟩, .int .i64 0, .int .i64 0, .slice none 0 0, .bool false, .slice none 0 0, .slice none 0 0, .slice none 0 0]) Tryz.zeroValue158 rfl) ?_
  rintro _ _ ⟨b5, rfl, rfl⟩
  refine O.q 1 rfl <| O.opU rfl (.storeObj (by kernel_rfl) rfl rfl rfl rfl (by repeat (first | exact zh | apply zt)) (by first | (simp; done) | (simp [Value.cells]; done))) ?_
  refine O.nil <| S.objIs (b := b5) (cs' := [.string (str xs[i].1), .int .i64 xs[i].2.1, .int .i64 xs[i].2.2.1, .slice ia3_19 xs[i].2.2.2.1.length ic3_19, .bool xs[i].2.2.2.2.1, .slice ia5_19 xs[i].2.2.2.2.2.1.length ic5_19, .slice ia6_19 xs[i].2.2.2.2.2.2.1.length ic6_19, .slice ia7_19 (recB xs[i]).length ic7_19]) (by repeat (first | exact zh | apply zt)) rfl ?_
  refine S.frzO (by repeat (first | exact zh | apply zt)) fun g hs hm hb5 => ?_
  replace hg := Fr.sub_trans hg hs
  replace hR := melted hR hm
  try replace ha := ha.mono hs
  try replace hqat := hqat.mono hs
  try replace hqar := hqar.mono hs
  try replace hrow := hrow.mono hs
  try replace hp19 := hp19.mono hs
  try replace ha7_19 := ha7_19.mono hs
  try replace hr19 := hr19.mono hs
  try replace hr1_19 := hr1_19.mono hs
  replace hm1 := meltTrans hm1 hm
  clear hs hm
  by_cases h0 : i = 0
  ·cases eu : underR xs xs[i] with
   | true =>
    have hno : ¬ SRight xs := fun q => by have := (q.2 i hi).2; rw [eu] at this; cases this
    clear ih
    refine S.regionD (L := [0, 1, 2, 3, 4, 5, 6, 7, 8, 9, 10, 11, 12, 13, 14, 15, 16, 17, 18, 19, 20, 21]) F.mixed (by kernel_rfl) ?_
    refine OD.q 1 rfl <| .quiet (.p rfl) rfl (fun _ => .eql rfl rfl) <| OD.sT 22 rfl (by exact decide_eq_true (by omega)) ?_
    refine OD.q 15 rfl <| .quiet (.g rfl rfl) rfl (fun _ => .loadAgg Tryz.isAgg158 (by kernel_rfl) rfl hb5) ?_
    refine OD.call0 (.g rfl rfl) (by kernel_rfl) rfl F.ok212 rfl rfl (sunder_c hrow hr19) ?_
    rintro v39 _ ⟨rfl, rfl⟩
    try simp only [zx1, zx2, zx3]
    refine OD.sT 39 rfl (by exact eu) ?_
    refine .quiet (.g rfl rfl) rfl (fun _ => .not rfl) <| OD.q 1 rfl <| OD.callP0 (.p rfl) (by kernel_rfl) rfl F.ok130 rfl rfl (smust_c _) (fun ch η' w hX hW => by (obtain ⟨hb, rfl, rfl⟩ := hX; exact hR _ _ w ⟨hno, rfl, rfl⟩ hW.drop_all)) ?_
    rintro v42 _ ⟨hb42, rfl, rfl⟩
    try simp only [zx1, zx2, zx3]
    exact absurd hb42 (by simp)
   | false =>
    refine S.regionD (L := [0, 1, 2, 3, 4, 5, 6, 7, 8, 9, 10, 11, 12, 13, 14, 15, 16, 17, 18, 19, 20, 21]) F.mixed (by kernel_rfl) ?_
    refine OD.q 1 rfl <| .quiet (.p rfl) rfl (fun _ => .eql rfl rfl) <| OD.sT 22 rfl (by exact decide_eq_true (by omega)) ?_
    refine OD.q 15 rfl <| .quiet (.g rfl rfl) rfl (fun _ => .loadAgg Tryz.isAgg158 (by kernel_rfl) rfl hb5) ?_
    refine OD.call0 (.g rfl rfl) (by kernel_rfl) rfl F.ok212 rfl rfl (sunder_c hrow hr19) ?_
    rintro v39 _ ⟨rfl, rfl⟩
    try simp only [zx1, zx2, zx3]
    refine OD.sF 39 rfl (by exact eu) ?_
    refine .quiet (.g rfl rfl) rfl (fun _ => .not rfl) <| OD.q 1 rfl <| OD.callP0 (.p rfl) (by kernel_rfl) rfl F.ok130 rfl rfl (smust_c _) (fun ch η' w hX hW => by (exact absurd hX.1 (by simp))) ?_
    rintro v42 _ ⟨hb42, rfl, rfl⟩
    try simp only [zx1, zx2, zx3]
    refine ODx.nil <| S.inBlock <| S.region rfl <| O.op (.p rfl) (.add rfl rfl (IntWalk.i64_in _ (by omega))) <| O.q 1 rfl <| O.nil ?_
    exact S.melt hm1 (S.wk (ih (i + 1) (by exact ⟨by omega, hnext ⟨fun h1 => absurd h1 (by omega), eu⟩⟩) (by omega)))
  ·have hi1 : i - 1 < xs.length := by omega
   by_cases hc : cmpR xs[i-1] xs[i] < 0
   ·cases eu : underR xs xs[i] with
    | true =>
     have hno : ¬ SRight xs := fun q => by have := (q.2 i hi).2; rw [eu] at this; cases this
     clear ih
     refine S.regionD (L := [0, 1, 2, 3, 4, 5, 6, 7, 8, 9, 10, 11, 12, 13, 14, 15, 16, 17, 18, 19, 20, 21]) F.mixed (by kernel_rfl) ?_
     refine OD.q 1 rfl <| .quiet (.p rfl) rfl (fun _ => .eql rfl rfl) <| OD.sF 22 rfl (by exact decide_eq_false (by omega)) ?_
     refine OD.q 2 rfl <| .quiet (.g rfl rfl) rfl (fun _ => .nilCheck rfl) <| .quiet (.g rfl rfl) rfl (fun _ => .fieldAddr F.fld148x0 rfl) <| .quiet (.g rfl rfl) rfl (fun _ => .loadAt F.flat146 rfl hqat rfl) ?_
     refine OD.q 1 rfl <| .quiet (.g rfl rfl) rfl (fun _ => .sub rfl rfl (IntWalk.i64_in _ (by omega))) <| OD.ia (.g rfl rfl) Tryz.underlying146 F.size158 rfl rfl (show _ = (((i - 1) : Nat) : Int) by omega) (by first | assumption | exact Arr.mono hg (by assumption) | exact Arr.left (by assumption) | exact Arr.left (Arr.mono hg (by assumption))) (h := fun p30 cs30 hp30 hr30 => ?_)
     obtain ⟨ia3_30, ia5_30, ia6_30, ia7_30, ic3_30, ic5_30, ic6_30, ic7_30, rfl, hr1_30, ha7_30⟩ := ItRp.sh hr30
     refine .quiet (.g rfl rfl) rfl (fun _ => .loadAgg Tryz.isAgg158 (by kernel_rfl) rfl hp30) ?_
     refine .quiet (.g rfl rfl) rfl (fun _ => .loadAgg Tryz.isAgg158 (by kernel_rfl) rfl hb5) ?_
     refine OD.call0 (.g rfl rfl) (by kernel_rfl) rfl F.ok208 rfl rfl (scompare_c hr30 hr19) ?_
     rintro v33 _ ⟨rfl, rfl⟩
     try simp only [zx1, zx2, zx3]
     refine .quiet (.g rfl rfl) rfl (fun _ => .lss rfl rfl) <| OD.sT 34 rfl (by exact decide_eq_true hc) ?_
     refine OD.q 3 rfl <| .quiet (.g rfl rfl) rfl (fun _ => .loadAgg Tryz.isAgg158 (by kernel_rfl) rfl hb5) ?_
     refine OD.call0 (.g rfl rfl) (by kernel_rfl) rfl F.ok212 rfl rfl (sunder_c hrow hr19) ?_
     rintro v39 _ ⟨rfl, rfl⟩
     try simp only [zx1, zx2, zx3]
     refine OD.sT 39 rfl (by exact eu) ?_
     refine .quiet (.g rfl rfl) rfl (fun _ => .not rfl) <| OD.q 1 rfl <| OD.callP0 (.p rfl) (by kernel_rfl) rfl F.ok130 rfl rfl (smust_c _) (fun ch η' w hX hW => by (obtain ⟨hb, rfl, rfl⟩ := hX; exact hR _ _ w ⟨hno, rfl, rfl⟩ hW.drop_all)) ?_
     rintro v42 _ ⟨hb42, rfl, rfl⟩
     try simp only [zx1, zx2, zx3]
     exact absurd hb42 (by simp)
    | false =>
     refine S.regionD (L := [0, 1, 2, 3, 4, 5, 6, 7, 8, 9, 10, 11, 12, 13, 14, 15, 16, 17, 18, 19, 20, 21]) F.mixed (by kernel_rfl) ?_
     refine OD.q 1 rfl <| .quiet (.p rfl) rfl (fun _ => .eql rfl rfl) <| OD.sF 22 rfl (by exact decide_eq_false (by omega)) ?_
     refine OD.q 2 rfl <| .quiet (.g rfl rfl) rfl (fun _ => .nilCheck rfl) <| .quiet (.g rfl rfl) rfl (fun _ => .fieldAddr F.fld148x0 rfl) <| .quiet (.g rfl rfl) rfl (fun _ => .loadAt F.flat146 rfl hqat rfl) ?_
     refine OD.q 1 rfl <| .quiet (.g rfl rfl) rfl (fun _ => .sub rfl rfl (IntWalk.i64_in _ (by omega))) <| OD.ia (.g rfl rfl) Tryz.underlying146 F.size158 rfl rfl (show _ = (((i - 1) : Nat) : Int) by omega) (by first | assumption | exact Arr.mono hg (by assumption) | exact Arr.left (by assumption) | exact Arr.left (Arr.mono hg (by assumption))) (h := fun p30 cs30 hp30 hr30 => ?_)
     obtain ⟨ia3_30, ia5_30, ia6_30, ia7_30, ic3_30, ic5_30, ic6_30, ic7_30, rfl, hr1_30, ha7_30⟩ := ItRp.sh hr30
     refine .quiet (.g rfl rfl) rfl (fun _ => .loadAgg Tryz.isAgg158 (by kernel_rfl) rfl hp30) ?_
     refine .quiet (.g rfl rfl) rfl (fun _ => .loadAgg Tryz.isAgg158 (by kernel_rfl) rfl hb5) ?_
     refine OD.call0 (.g rfl rfl) (by kernel_rfl) rfl F.ok208 rfl rfl (scompare_c hr30 hr19) ?_
     rintro v33 _ ⟨rfl, rfl⟩
     try simp only [zx1, zx2, zx3]
     refine .quiet (.g rfl rfl) rfl (fun _ => .lss rfl rfl) <| OD.sT 34 rfl (by exact decide_eq_true hc) ?_
     refine OD.q 3 rfl <| .quiet (.g rfl rfl) rfl (fun _ => .loadAgg Tryz.isAgg158 (by kernel_rfl) rfl hb5) ?_
     refine OD.call0 (.g rfl rfl) (by kernel_rfl) rfl F.ok212 rfl rfl (sunder_c hrow hr19) ?_
     rintro v39 _ ⟨rfl, rfl⟩
     try simp only [zx1, zx2, zx3]
     refine OD.sF 39 rfl (by exact eu) ?_
     refine .quiet (.g rfl rfl) rfl (fun _ => .not rfl) <| OD.q 1 rfl <| OD.callP0 (.p rfl) (by kernel_rfl) rfl F.ok130 rfl rfl (smust_c _) (fun ch η' w hX hW => by (exact absurd hX.1 (by simp))) ?_
     rintro v42 _ ⟨hb42, rfl, rfl⟩
     try simp only [zx1, zx2, zx3]
     refine ODx.nil <| S.inBlock <| S.region rfl <| O.op (.p rfl) (.add rfl rfl (IntWalk.i64_in _ (by omega))) <| O.q 1 rfl <| O.nil ?_
     exact S.melt hm1 (S.wk (ih (i + 1) (by exact ⟨by omega, hnext ⟨fun _ => hc, eu⟩⟩) (by omega)))
   ·have hno : ¬ SRight xs := fun q => hc ((q.2 i hi).1 (by omega))
    clear ih
    refine S.regionD (L := [0, 1, 2, 3, 4, 5, 6, 7, 8, 9, 10, 11, 12, 13, 14, 15, 16, 17, 18, 19, 20, 21]) F.mixed (by kernel_rfl) ?_
    refine OD.q 1 rfl <| .quiet (.p rfl) rfl (fun _ => .eql rfl rfl) <| OD.sF 22 rfl (by exact decide_eq_false (by omega)) ?_
    refine OD.q 2 rfl <| .quiet (.g rfl rfl) rfl (fun _ => .nilCheck rfl) <| .quiet (.g rfl rfl) rfl (fun _ => .fieldAddr F.fld148x0 rfl) <| .quiet (.g rfl rfl) rfl (fun _ => .loadAt F.flat146 rfl hqat rfl) ?_
    refine OD.q 1 rfl <| .quiet (.g rfl rfl) rfl (fun _ => .sub rfl rfl (IntWalk.i64_in _ (by omega))) <| OD.ia (.g rfl rfl) Tryz.underlying146 F.size158 rfl rfl (show _ = (((i - 1) : Nat) : Int) by omega) (by first | assumption | exact Arr.mono hg (by assumption) | exact Arr.left (by assumption) | exact Arr.left (Arr.mono hg (by assumption))) (h := fun p30 cs30 hp30 hr30 => ?_)
    obtain ⟨ia3_30, ia5_30, ia6_30, ia7_30, ic3_30, ic5_30, ic6_30, ic7_30, rfl, hr1_30, ha7_30⟩ := ItRp.sh hr30
    refine .quiet (.g rfl rfl) rfl (fun _ => .loadAgg Tryz.isAgg158 (by kernel_rfl) rfl hp30) ?_
    refine .quiet (.g rfl rfl) rfl (fun _ => .loadAgg Tryz.isAgg158 (by kernel_rfl) rfl hb5) ?_
    refine OD.call0 (.g rfl rfl) (by kernel_rfl) rfl F.ok208 rfl rfl (scompare_c hr30 hr19) ?_
    rintro v33 _ ⟨rfl, rfl⟩
    try simp only [zx1, zx2, zx3]
    refine .quiet (.g rfl rfl) rfl (fun _ => .lss rfl rfl) <| OD.sF 34 rfl (by exact decide_eq_false hc) ?_
    refine OD.q 7 rfl <| OD.callP0 (.p rfl) (by kernel_rfl) rfl F.ok130 rfl rfl (smust_c _) (fun ch η' w hX hW => by (obtain ⟨hb, rfl, rfl⟩ := hX; exact hR _ _ w ⟨hno, rfl, rfl⟩ hW.drop_all)) ?_
    rintro v42 _ ⟨hb42, rfl, rfl⟩
    try simp only [zx1, zx2, zx3]
    exact absurd hb42 (by simp)
 ·clear ih
  have hi : i = xs.length := by omega
  subst hi
  refine S.exit rfl <| S.seq <| S.back hbq ?_
  replace hg := hg_q
  replace hR := hR_q
  try replace ha := ha_q
  clear hg_q hR_q
  refine S.region rfl <| O.q 2 rfl <| O.nil ?_
  exact S.rt Tryz.results116 rfl hR ⟨⟨hone, fun j h => hx2 j h h⟩, b7, rfl, rfl⟩
end Go.Proofs.YtodhbhanmdfdeaaGreat
end
