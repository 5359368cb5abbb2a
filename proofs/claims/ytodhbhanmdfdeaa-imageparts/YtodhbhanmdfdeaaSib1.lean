import Derived.Test.YtodhbhanmdfdeaaRec3
import Derived.Test.YtodhbhanmdfdeaaSpSib
open Go Go.Sp
set_option maxRecDepth 100000
attribute [local irreducible] obj Own OwnP
namespace Go.Proofs.Ytodhbhanmdfdeaa
theorem FactSib1.elem3 : elemIs Go.Proofs.Try.prog 3 1 8 [.int .i64 0] := elemIs.mk (by kernel_rfl) rfl
theorem FactSib1.elem88 : elemIs Go.Proofs.Try.prog 88 8 136 [.string ⟨#[]⟩, .int .i64 0, .int .i64 0, .slice none 0 0, .bool false, .slice none 0 0, .slice none 0 0, .slice none 0 0] := elemIs.mk (by kernel_rfl) rfl
theorem FactSib1.flat3 : Go.Sp.flat1 Go.Proofs.Try.prog 3 = true := by kernel_rfl
theorem FactSib1.flat84 : Go.Sp.flat1 Go.Proofs.Try.prog 84 = true := by kernel_rfl
theorem FactSib1.flat9 : Go.Sp.flat1 Go.Proofs.Try.prog 9 = true := by kernel_rfl
theorem FactSib1.fld68x0 : fieldOff Go.Proofs.Try.prog 68 0 = some 0 := by kernel_rfl
theorem FactSib1.fld68x1 : fieldOff Go.Proofs.Try.prog 68 1 = some 1 := by kernel_rfl
theorem FactSib1.fld68x2 : fieldOff Go.Proofs.Try.prog 68 2 = some 2 := by kernel_rfl
theorem FactSib1.fld86x0 : fieldOff Go.Proofs.Try.prog 86 0 = some 0 := by kernel_rfl
theorem FactSib1.fld88x0 : fieldOff Go.Proofs.Try.prog 88 0 = some 0 := by kernel_rfl
theorem FactSib1.mixed : Go.Proofs.Try.prog.follows .mixedOrders = true := by kernel_rfl
theorem FactSib1.ok48 : callable Go.Proofs.Try.prog 48 = true := by kernel_rfl
theorem FactSib1.ok57 : callable Go.Proofs.Try.prog 57 = true := by kernel_rfl
theorem FactSib1.ok58 : callable Go.Proofs.Try.prog 58 = true := by kernel_rfl
theorem FactSib1.ok59 : callable Go.Proofs.Try.prog 59 = true := by kernel_rfl
theorem FactSib1.size68 : (Go.Proofs.Try.prog.info? 68).map (·.size) = some 7 := by kernel_rfl
theorem FactSib1.size88 : (Go.Proofs.Try.prog.info? 88).map (·.size) = some 8 := by kernel_rfl

/-- what is thrown where something is no set -/
def shp : List PanicEntry := [{ v := .iface 33 (.int .i64 4), recovered := false }]
theorem smust_c {r : Fr} (b : Bool) : Con Go.Proofs.Try.prog 48 #[.bool b] r [] (RetP (fun v η => b = true ∧ v = .tuple #[] ∧ η = []) (fun ch η => b = false ∧ ch = shp ∧ η = [])) := by
  refine Con.of (n := 5) [.bool b] rfl Go.Proofs.Try.func48 rfl rfl rfl fun g hg R hR => ?_
  refine S.seq (S.region rfl ?_)
  refine O.op (.p rfl) (.mv rfl) ?_
  refine O.op (.p rfl) ((by first | exact .notD rfl | exact .not rfl)) ?_
  refine O.nil ?_
  first | refine S.condD rfl (fun h3 => ?_) (fun h3 => ?_) | refine S.condB rfl (fun h3 => ?_) (fun h3 => ?_)
  · refine S.region rfl ?_
    refine O.op (.p rfl) (.mkIface Go.Proofs.Try.underlying33 rfl) ?_
    refine O.panic rfl rfl (fun w hw => ?_)
    exact hR _ [] w ⟨by simpa using h3, rfl, rfl⟩ hw
  · refine S.skip ?_
    refine S.end0 Go.Proofs.Try.results48 fun w hw => hR _ _ w ?_ hw
    exact ⟨by simpa using h3, rfl, rfl⟩
theorem scompare_c {r : Fr} {cs ds : List Value} {x y : RecT} (h : ItRp.rel r cs x) (h' : ItRp.rel r ds y) : Con Go.Proofs.Try.prog 49 #[.agg cs.toArray, .agg ds.toArray] r [] (Ret fun v η => v = .int .i64 (cmpR x y) ∧ η = []) := by
  obtain ⟨xa3, xa5, xa6, xa7, xc3, xc5, xc6, xc7, rfl, _, _⟩ := ItRp.sh h
  obtain ⟨ya3, ya5, ya6, ya7, yc3, yc5, yc6, yc7, rfl, _, _⟩ := ItRp.sh h'
  refine Con.of (n := 21) [.agg #[.string (str x.1), .int .i64 x.2.1, .int .i64 x.2.2.1, .slice xa3 x.2.2.2.1.length xc3, .bool x.2.2.2.2.1, .slice xa5 x.2.2.2.2.2.1.length xc5, .slice xa6 x.2.2.2.2.2.2.1.length xc6, .slice xa7 (recB x).length xc7], .agg #[.string (str y.1), .int .i64 y.2.1, .int .i64 y.2.2.1, .slice ya3 y.2.2.2.1.length yc3, .bool y.2.2.2.2.1, .slice ya5 y.2.2.2.2.2.1.length yc5, .slice ya6 y.2.2.2.2.2.2.1.length yc6, .slice ya7 (recB y).length yc7]] rfl Go.Proofs.Try.func49 rfl rfl rfl fun g hg R hR => ?_
  have hc1 := cmpZ_in x.2.1 y.2.1
  have hc2 := cmpZ_in x.2.2.1 y.2.2.1
  refine S.seq (S.region rfl ?_)
  refine O.opE (.p rfl) (.box (cs := [_, _, _, _, _, _, _, _]) rfl rfl) ?_
  rintro _ _ ⟨b2, rfl, rfl⟩
  refine O.opE (.p rfl) (.box (cs := [_, _, _, _, _, _, _, _]) rfl rfl) ?_
  rintro _ _ ⟨b3, rfl, rfl⟩
  refine O.op (.p rfl) (.as rfl) ?_
  refine O.nil ?_
  refine S.seq ?_
  refine S.frzO (by repeat (first | exact Sel.here | apply Sel.there)) fun g hs hm hb3 => ?_
  replace hg := Fr.sub_trans hg hs
  replace hR := melted hR hm
  clear hs hm
  refine S.frzO (by repeat (first | exact Sel.here | apply Sel.there)) fun g hs hm hb2 => ?_
  replace hg := Fr.sub_trans hg hs
  replace hR := melted hR hm
  try replace hb3 := hb3.mono hs
  clear hs hm
  refine S.regionD (L := [0, 1, 2, 3, 4, 5, 7, 8, 9, 10, 11, 12, 6, 13, 14, 15, 16]) FactSib1.mixed (by kernel_rfl) ?_
  refine .quiet (.p rfl) rfl (fun _ => .fieldAddr FactSib1.fld88x0 rfl) ?_
  refine .quiet (.p rfl) rfl (fun _ => .fieldAddr FactSib1.fld68x1 rfl) ?_
  refine .quiet (.p rfl) rfl (fun _ => .loadAt FactSib1.flat3 rfl (hb2.drop 1) rfl) ?_
  refine .quiet (.p rfl) rfl (fun _ => .fieldAddr FactSib1.fld88x0 rfl) ?_
  refine .quiet (.p rfl) rfl (fun _ => .fieldAddr FactSib1.fld68x1 rfl) ?_
  refine .quiet (.p rfl) rfl (fun _ => .loadAt FactSib1.flat3 rfl (hb3.drop 1) rfl) ?_
  refine .quiet (.p rfl) rfl (fun _ => .fieldAddr FactSib1.fld88x0 rfl) ?_
  refine .quiet (.p rfl) rfl (fun _ => .fieldAddr FactSib1.fld68x2 rfl) ?_
  refine .quiet (.p rfl) rfl (fun _ => .loadAt FactSib1.flat3 rfl (hb2.drop 2) rfl) ?_
  refine .quiet (.p rfl) rfl (fun _ => .fieldAddr FactSib1.fld88x0 rfl) ?_
  refine .quiet (.p rfl) rfl (fun _ => .fieldAddr FactSib1.fld68x2 rfl) ?_
  refine .quiet (.p rfl) rfl (fun _ => .loadAt FactSib1.flat3 rfl (hb3.drop 2) rfl) ?_
  refine OD.call0 (.p rfl) (by kernel_rfl) rfl FactSib1.ok59 rfl rfl (compare_c _ _) ?_
  rintro v11 _ ⟨rfl, rfl⟩
  try simp only [List.cons_append, List.nil_append, List.append_nil]
  refine OD.call0 (.p rfl) (by kernel_rfl) rfl FactSib1.ok59 rfl rfl (compare_c _ _) ?_
  rintro v18 _ ⟨rfl, rfl⟩
  try simp only [List.cons_append, List.nil_append, List.append_nil]
  refine OD.litP (T := Rp.i64) (ys := [_, _]) (.p rfl) (by kernel_rfl) Go.Proofs.Try.underlying25 FactSib1.elem3 (by decide) rfl rfl ⟨⟨rfl, by first | assumption | (constructor <;> omega)⟩, ⟨rfl, by first | assumption | (constructor <;> omega)⟩, trivial⟩ (by decide) (fun a19 c19 => ?_)
  refine OD.callS (.p rfl) (by kernel_rfl) rfl FactSib1.ok58 rfl rfl (by repeat (first | exact Sel.here | apply Sel.there)) cmpOr_d ?_
  rintro v20 _ ⟨rfl, rfl⟩
  try simp only [List.cons_append, List.nil_append, List.append_nil]
  refine .quiet (.p rfl) rfl (fun _ => .as rfl) ?_
  refine .nil ?_
  refine S.ret Go.Proofs.Try.results49 rfl fun w hw => Holds.end_ hR hw ?_
  refine ⟨_, ⟨congrArg _ ?_, rfl⟩, by repeat (first | exact Picks.all | exact Picks.nil | (apply Picks.cons; focus (repeat (first | exact Sel.here | apply Sel.there))) | apply Picks.skip)⟩
  unfold cmpR firstNZ firstNZ firstNZ
  split
  · rfl
  · split
    · rfl
    · rename_i h2; exact (Classical.not_not.1 h2).symm
theorem sadd_c {r : Fr} {b : Nat} {va : Value} {xs ys : List RecT} (ha : Arr RecRp r va ys) (h1 : oneK xs = true) (hl : xs.length + ys.length ≤ 100000000000) :
    Con Go.Proofs.Try.prog 47 #[.pointer (some ⟨b, 0, none⟩), va] r [RowP r 86 88 5 b xs]
      (RetP (fun v η => oneK (xs ++ ys) = true ∧ v = .tuple #[] ∧ η = [RowP r 86 88 5 b (xs ++ ys)]) (fun ch η => oneK (xs ++ ys) = false ∧ ch = shp ∧ η = [])) := by
  have hrec := ha
  refine Con.of (n := 56) [.pointer (some ⟨b, 0, none⟩), va] rfl Go.Proofs.Try.func47 rfl rfl rfl fun g hg R hR => ?_
  have ha := ha.mono hg
  obtain ⟨a1, c1, rfl⟩ := ha.shape
  refine S.seq (S.region rfl ?_)
  refine O.op (.p rfl) (.mv rfl) ?_
  refine O.op (.p rfl) (.len rfl Go.Proofs.Try.underlying46 rfl) ?_
  refine O.op (.p rfl) (.mv rfl) ?_
  refine O.nil ?_
  refine S.block ?_
  refine S.conv (B := RowP r 86 88 5 b xs) (C := RowP r 86 88 5 b (xs ++ ys.take 0)) (by repeat (first | exact Sel.here | apply Sel.there)) (fun m x => ⟨m, Fr.sub_refl _, by rw [List.take_zero, List.append_nil]; exact x⟩) ?_
  refine S.loopK (ι := Nat) (fun i => i ≤ ys.length ∧ oneK (xs ++ ys.take i) = true) (fun i => [(10, .int .i64 (i : Int))]) [(0, _), (8, _), (9, _)] (fun i => [RowP r 86 88 5 b (xs ++ ys.take i)]) (fun i => ys.length - i) (0) (by exact ⟨by simp, by simpa using h1⟩) (.cons rfl (.nil)) (.cons rfl (.cons rfl (.cons rfl (.nil)))) rfl fun i hx ih => ?_
  have hm1 := meltRefl (g := g)
  obtain ⟨hx1, hx2⟩ := hx
  refine S.seq (S.region rfl ?_)
  refine O.op (.p rfl) (.lss rfl rfl) ?_
  refine O.nil ?_
  refine S.seq ?_
  first | refine S.condD rfl (fun h11 => ?_) (fun h11 => ?_) | refine S.condB rfl (fun h11 => ?_) (fun h11 => ?_)
  · have hi : i < ys.length := by omega
    have htk : xs ++ ys.take (i + 1) = (xs ++ ys.take i) ++ [ys[i]] := by rw [List.take_succ_eq_append_getElem hi, List.append_assoc]
    have hsn := oneK_snoc (x := ys[i]) hx2
    rw [← htk] at hsn
    have hbad : oneK (xs ++ ys.take (i + 1)) = false → oneK (xs ++ ys) = false := fun q => by
      rw [Bool.eq_false_iff]; intro q2
      have := oneK_take (xs.length + (i + 1)) q2
      rw [List.take_append, List.take_of_length_le (Nat.le_add_right _ _), Nat.add_sub_cancel_left, q] at this
      cases this
    have hlen : (xs ++ ys.take i).length = xs.length + i := by simp; omega
    generalize hzs : xs ++ ys.take i = zs at hx2 hsn htk hlen ⊢
    refine S.skip (S.seq (S.block (S.seq (S.region rfl ?_))))
    refine O.idxR (.p rfl) Go.Proofs.Try.underlying46 FactSib1.size68 rfl rfl rfl hrec hg (by decide) (by first | omega | (simp; done) | (simp; omega) | decide) (fun p12 cs12 hp12 hrr12 => ?_)
    have hr12 := Rp.rel.mono hrr12 hg
    obtain ⟨ra3_12, ra5_12, ra6_12, rc3_12, rc5_12, rc6_12, rfl, ho0_12, ho1_12, ho2_12, ha3_12, ha5_12, ha6_12⟩ := RecRp.sh hr12
    refine O.op (.p rfl) (.loadAgg Go.Proofs.Try.isAgg68 (by kernel_rfl) rfl hp12) ?_
    refine O.opE (.p rfl) (.alloc (cs := [.string ⟨#[]⟩, .int .i64 0, .int .i64 0, .slice none 0 0, .bool false, .slice none 0 0, .slice none 0 0]) Go.Proofs.Try.zeroValue68 rfl) ?_
    rintro _ _ ⟨b5, rfl, rfl⟩
    refine O.opU rfl (.storeObj (by kernel_rfl) rfl rfl rfl rfl (by repeat (first | exact Sel.here | apply Sel.there)) (by first | (simp; done) | (simp [Value.cells]; done))) ?_
    refine O.nil ?_
    refine S.seq (S.region rfl ?_)
    refine O.op (.p rfl) (.loadObjAgg (news := [_, _, _, _, _, _, _]) Go.Proofs.Try.isAgg68 (by kernel_rfl) rfl (by repeat (first | exact Sel.here | apply Sel.there)) rfl) ?_
    refine O.call0 (.p rfl) rfl FactSib1.ok57 rfl rfl (rPut_c (by first | assumption | exact Rp.rel.mono (by assumption) hg)) ?_
    rintro v16 _ ⟨a16, c16, rfl, rfl⟩
    try simp only [List.cons_append, List.nil_append, List.append_nil]
    refine O.op (.p rfl) (.mv rfl) ?_
    refine O.op (.p rfl) (.extract rfl rfl) ?_
    refine O.op (.p rfl) (.extract rfl rfl) ?_
    refine O.op (.p rfl) (.as rfl) ?_
    refine O.op (.p rfl) (.as rfl) ?_
    refine O.nil ?_
    refine S.seq ?_
    refine S.objIs (b := b5) (cs' := [.string (str ys[i].1), .int .i64 ys[i].2.1, .int .i64 ys[i].2.2.1, .slice ra3_12 ys[i].2.2.2.1.length rc3_12, .bool ys[i].2.2.2.2.1, .slice ra5_12 ys[i].2.2.2.2.2.1.length rc5_12, .slice ra6_12 ys[i].2.2.2.2.2.2.1.length rc6_12]) (by repeat (first | exact Sel.here | apply Sel.there)) rfl ?_
    cases e : recOk ys[i] with
    | false =>
      have hno : oneK (xs ++ ys) = false := hbad (by rw [Bool.eq_false_iff]; intro q; have := (hsn.1 q).1; rw [e] at this; cases this)
      refine S.regionD (L := [0, 1, 2, 3, 4, 5, 6, 7, 8, 9, 10, 11, 12, 13, 14, 15, 16, 17, 18, 19, 20, 21, 22, 23]) FactSib1.mixed (by kernel_rfl) ?_
      refine .quiet (.p rfl) rfl (fun _ => .mv rfl) ?_
      refine .quiet (.p rfl) rfl (fun _ => .eql rfl rfl) ?_
      refine OD.slot 20 (v' := .bool false) rfl (congrArg Value.bool (by simp [recErr, e])) ?_
      refine .quiet (.p rfl) rfl (fun _ => .mv rfl) ?_
      refine .no rfl rfl rfl rfl ?_
      refine .no rfl rfl rfl rfl ?_
      refine .no rfl rfl rfl rfl ?_
      refine .no rfl rfl rfl rfl ?_
      refine .no rfl rfl rfl rfl ?_
      refine .no rfl rfl rfl rfl ?_
      refine .no rfl rfl rfl rfl ?_
      refine .no rfl rfl rfl rfl ?_
      refine .no rfl rfl rfl rfl ?_
      refine .no rfl rfl rfl rfl ?_
      refine .no rfl rfl rfl rfl ?_
      refine .no rfl rfl rfl rfl ?_
      refine .no rfl rfl rfl rfl ?_
      refine .no rfl rfl rfl rfl ?_
      refine .no rfl rfl rfl rfl ?_
      refine .no rfl rfl rfl rfl ?_
      refine .no rfl rfl rfl rfl ?_
      refine .no rfl rfl rfl rfl ?_
      refine .no rfl rfl rfl rfl ?_
      refine .quiet (.p rfl) rfl (fun _ => .pickF rfl rfl) ?_
      refine OD.callP0 (.p rfl) (by kernel_rfl) rfl FactSib1.ok48 rfl rfl (smust_c _) (fun ch η' w hX hW => by (obtain ⟨hb, rfl, rfl⟩ := hX; exact hR _ _ w ⟨hno, rfl, rfl⟩ hW.drop_all)) ?_
      rintro v42 _ ⟨hb42, rfl, rfl⟩
      try simp only [List.cons_append, List.nil_append, List.append_nil]
      exact absurd hb42 (by simp)
    | true =>
      have eo : recOut ys[i] = recB ys[i] := by simp [recOut, e]
      rw [eo]
      by_cases h0 : zs.length = 0
      · have hyes := hsn.2 ⟨e, fun h => absurd h (by omega)⟩
        refine S.frzO (by repeat (first | exact Sel.here | apply Sel.there)) fun g hs hm hb5 => ?_
        replace hg := Fr.sub_trans hg hs
        replace hR := melted hR hm
        try replace ha := ha.mono hs
        try replace hp12 := hp12.mono hs
        try replace hr12 := hr12.mono hs
        try replace ha3_12 := ha3_12.mono hs
        try replace ha5_12 := ha5_12.mono hs
        try replace ha6_12 := ha6_12.mono hs
        replace hm1 := meltTrans hm1 hm
        clear hs hm
        have hg_q := hg
        have hR_q := hR
        try have ha_q := ha
        try have hp12_q := hp12
        try have hr12_q := hr12
        try have ha3_12_q := ha3_12
        try have ha5_12_q := ha5_12
        try have ha6_12_q := ha6_12
        try have hb5_q := hb5
        refine S.frzH (B := RowP r 86 88 5 b zs) (by repeat (first | exact Sel.here | apply Sel.there)) fun gq hsq ⟨mq, hmq, hsmq⟩ hbq => ?_
        replace hg := Fr.sub_trans hg hsq
        replace hR := backR hR hbq
        try replace ha := ha.mono hsq
        try replace hp12 := hp12.mono hsq
        try replace hr12 := hr12.mono hsq
        try replace ha3_12 := ha3_12.mono hsq
        try replace ha5_12 := ha5_12.mono hsq
        try replace ha6_12 := ha6_12.mono hsq
        try replace hb5 := hb5.mono hsq
        obtain ⟨qa, qc, hqat, hqar⟩ := RowP.read hg hsmq hmq
        refine S.regionD (L := [0, 1, 2, 3, 4, 5, 6, 7, 8, 9, 10, 11, 12, 13, 14, 15, 16, 17, 18, 19, 20, 21, 22, 23]) FactSib1.mixed (by kernel_rfl) ?_
        refine .quiet (.p rfl) rfl (fun _ => .mv rfl) ?_
        refine .quiet (.p rfl) rfl (fun _ => .eql rfl rfl) ?_
        refine OD.slot 20 (v' := .bool true) rfl (congrArg Value.bool (by simp [recErr, e])) ?_
        refine .quiet (.p rfl) rfl (fun _ => .mv rfl) ?_
        refine .quiet (.g rfl rfl) rfl (fun _ => .mv rfl) ?_
        refine .quiet (.g rfl rfl) rfl (fun _ => .nilCheck rfl) ?_
        refine .quiet (.g rfl rfl) rfl (fun _ => .fieldAddr FactSib1.fld86x0 rfl) ?_
        refine .quiet (.g rfl rfl) rfl (fun _ => .loadAt FactSib1.flat84 rfl hqat rfl) ?_
        refine .quiet (.g rfl rfl) rfl (fun _ => .len rfl Go.Proofs.Try.underlying84 rfl) ?_
        refine .quiet (.g rfl rfl) rfl (fun _ => .eql rfl rfl) ?_
        refine OD.slot 27 (v' := .bool true) rfl (congrArg Value.bool (by exact decide_eq_true (by omega))) ?_
        refine .quiet (.g rfl rfl) rfl (fun _ => .mv rfl) ?_
        refine .no rfl rfl rfl rfl ?_
        refine .no rfl rfl rfl rfl ?_
        refine .no rfl rfl rfl rfl ?_
        refine .no rfl rfl rfl rfl ?_
        refine .no rfl rfl rfl rfl ?_
        refine .no rfl rfl rfl rfl ?_
        refine .no rfl rfl rfl rfl ?_
        refine .no rfl rfl rfl rfl ?_
        refine .no rfl rfl rfl rfl ?_
        refine .no rfl rfl rfl rfl ?_
        refine .no rfl rfl rfl rfl ?_
        refine .quiet (.g rfl rfl) rfl (fun _ => .pickT rfl rfl) ?_
        refine .quiet (.p rfl) rfl (fun _ => .pickT rfl rfl) ?_
        refine OD.callP0 (.p rfl) (by kernel_rfl) rfl FactSib1.ok48 rfl rfl (smust_c _) (fun ch η' w hX hW => by (exact absurd hX.1 (by simp))) ?_
        rintro v42 _ ⟨hb42, rfl, rfl⟩
        try simp only [List.cons_append, List.nil_append, List.append_nil]
        refine .nil ?_
        refine S.back hbq ?_
        replace hg := hg_q
        replace hR := hR_q
        try replace ha := ha_q
        try replace hp12 := hp12_q
        try replace hr12 := hr12_q
        try replace ha3_12 := ha3_12_q
        try replace ha5_12 := ha5_12_q
        try replace ha6_12 := ha6_12_q
        try replace hb5 := hb5_q
        clear hg_q hR_q
        refine S.open (A := RowP r 86 88 5 b zs) (by repeat (first | exact Sel.here | apply Sel.there)) (fun m x => x) fun p => ?_
        simp only [List.cons_append, List.nil_append]
        refine S.factS (B := EachP (ItO r 5) p.2 zs) (by repeat (first | exact Sel.here | apply Sel.there)) (fun _ z => EachP.len z) fun hcl => ?_
        have hpl : p.2.length ≤ 100000000000 := by omega
        have hg_o := hg
        have hR_o := hR
        try have ha_o := ha
        try have hp12_o := hp12
        try have hr12_o := hr12
        try have ha3_12_o := ha3_12
        try have ha5_12_o := ha5_12
        try have ha6_12_o := ha6_12
        try have hb5_o := hb5
        refine S.frzH (B := obj b 86 [.slice p.1.1 zs.length p.1.2]) (by repeat (first | exact Sel.here | apply Sel.there)) fun go hso ⟨mo, hmo, hsmo⟩ hbo => ?_
        replace hg := Fr.sub_trans hg hso
        replace hR := backR hR hbo
        try replace ha := ha.mono hso
        try replace hp12 := hp12.mono hso
        try replace hr12 := hr12.mono hso
        try replace ha3_12 := ha3_12.mono hso
        try replace ha5_12 := ha5_12.mono hso
        try replace ha6_12 := ha6_12.mono hso
        try replace hb5 := hb5.mono hso
        have hato := (obj_at hmo).mono hsmo
        refine S.regionD (L := [0, 1, 2, 3, 4, 5, 6, 7, 8, 9, 10, 11, 12]) FactSib1.mixed (by kernel_rfl) ?_
        refine .quiet (.p rfl) rfl (fun _ => .mv rfl) ?_
        refine .quiet (.p rfl) rfl (fun _ => .mv rfl) ?_
        refine .quiet (.p rfl) rfl (fun _ => .nilCheck rfl) ?_
        refine .quiet (.p rfl) rfl (fun _ => .fieldAddr FactSib1.fld86x0 rfl) ?_
        refine .quiet (.p rfl) rfl (fun _ => .loadAt FactSib1.flat84 rfl hato rfl) ?_
        refine .quiet (.p rfl) rfl (fun _ => .loadAgg Go.Proofs.Try.isAgg68 (by kernel_rfl) rfl hb5) ?_
        refine .quiet (.p rfl) rfl (fun _ => .mv rfl) ?_
        refine .quiet (.p rfl) rfl (fun _ => .build (cs := [_, _, _, _, _, _, _, _]) Go.Proofs.Try.underlying88 rfl rfl rfl rfl rfl) ?_
        refine OD.litP (T := (Rp.cells 8)) (ys := [_]) (.p rfl) (by kernel_rfl) Go.Proofs.Try.underlying84 FactSib1.elem88 (by decide) rfl rfl ⟨⟨rfl, rfl, by first | (simp; done) | (intro v hv; simp [Value.cells] at hv; rcases hv with rfl | rfl <;> rfl) | (refine List.forall_mem_cons.2 ⟨rfl, ?_⟩; repeat (first | exact (fun _ h => absurd h List.not_mem_nil) | refine List.forall_mem_cons.2 ⟨rfl, ?_⟩))⟩, trivial⟩ (by decide) (fun a51 c51 => ?_)
        refine OD.appendO (.p rfl) (by kernel_rfl) (T := (Rp.cells 8)) Go.Proofs.Try.underlying84 FactSib1.elem88 (by decide) rfl rfl (by repeat (first | exact Sel.here | apply Sel.there)) (by repeat (first | exact Sel.here | apply Sel.there)) (by first | omega | (simp; done) | (simp; omega) | decide) (by first | omega | (simp; done) | (simp; omega) | decide) (fun a52 c52 => ?_)
        refine .quiet (.p rfl) rfl (fun _ => .nilCheck rfl) ?_
        refine .quiet (.p rfl) rfl (fun _ => .fieldAddr FactSib1.fld86x0 rfl) ?_
        refine OD.last1 rfl (by kernel_rfl) (fun _ hw => hbo hw) FactSib1.flat84 rfl rfl (by first | rfl | assumption) (by repeat (first | exact Sel.here | apply Sel.there)) (by first | (simp; done) | (simp; omega)) ?_
        replace hg := hg_o
        replace hR := hR_o
        try replace ha := ha_o
        try replace hp12 := hp12_o
        try replace hr12 := hr12_o
        try replace ha3_12 := ha3_12_o
        try replace ha5_12 := ha5_12_o
        try replace ha6_12 := ha6_12_o
        try replace hb5 := hb5_o
        clear hg_o hR_o
        refine S.inBlock (S.region rfl ?_)
        refine O.op (.p rfl) (.add rfl rfl (IntWalk.i64_in _ (by omega))) ?_
        refine O.op (.p rfl) (.mv rfl) ?_
        refine O.nil ?_
        refine S.ownIs (T := Rp.cells 8) (e := 88) (v' := .slice a52 (zs ++ [ys[i]]).length c52) (xs' := p.2 ++ [[.string (str ys[i].1), .int .i64 ys[i].2.1, .int .i64 ys[i].2.2.1, .slice ra3_12 ys[i].2.2.2.1.length rc3_12, .bool ys[i].2.2.2.2.1, .slice ra5_12 ys[i].2.2.2.2.2.1.length rc5_12, .slice ra6_12 ys[i].2.2.2.2.2.2.1.length rc6_12, .slice a16 (recB ys[i]).length c16]]) (by repeat (first | exact Sel.here | apply Sel.there)) (by simp [hcl]) (by simp [Value.cells]) ?_
        refine S.objIs (b := b) (cs' := [.slice a52 (zs ++ [ys[i]]).length c52]) (by repeat (first | exact Sel.here | apply Sel.there)) (by simp [hcl]) ?_
        refine S.conv (B := OwnP Rp.u8 5 (.slice a16 (recB ys[i]).length c16) (recB ys[i])) (C := ItO r 5 [.string (str ys[i].1), .int .i64 ys[i].2.1, .int .i64 ys[i].2.2.1, .slice ra3_12 ys[i].2.2.2.1.length rc3_12, .bool ys[i].2.2.2.2.1, .slice ra5_12 ys[i].2.2.2.2.2.1.length rc5_12, .slice ra6_12 ys[i].2.2.2.2.2.2.1.length rc6_12, .slice a16 (recB ys[i]).length c16] ys[i]) (by repeat (first | exact Sel.here | apply Sel.there)) (fun m x => ⟨m, Fr.sub_refl _, [.string (str ys[i].1), .int .i64 ys[i].2.1, .int .i64 ys[i].2.2.1, .slice ra3_12 ys[i].2.2.2.1.length rc3_12, .bool ys[i].2.2.2.2.1, .slice ra5_12 ys[i].2.2.2.2.2.1.length rc5_12, .slice ra6_12 ys[i].2.2.2.2.2.2.1.length rc6_12], a16, c16, rfl, hrr12, x⟩) ?_
        refine S.each (A := ItO r 5) (bs := p.2) (b := [.string (str ys[i].1), .int .i64 ys[i].2.1, .int .i64 ys[i].2.2.1, .slice ra3_12 ys[i].2.2.2.1.length rc3_12, .bool ys[i].2.2.2.2.1, .slice ra5_12 ys[i].2.2.2.2.2.1.length rc5_12, .slice ra6_12 ys[i].2.2.2.2.2.2.1.length rc6_12, .slice a16 (recB ys[i]).length c16]) (a := ys[i]) (by repeat (first | exact Sel.here | apply Sel.there)) (by repeat (first | exact Sel.here | apply Sel.there)) ?_
        refine S.foldS (A := RowP r 86 88 5 b (zs ++ [ys[i]])) (bs := [obj b 86 [.slice a52 (zs ++ [ys[i]]).length c52], OwnP (Rp.cells 8) 88 (.slice a52 (zs ++ [ys[i]]).length c52) (p.2 ++ [[.string (str ys[i].1), .int .i64 ys[i].2.1, .int .i64 ys[i].2.2.1, .slice ra3_12 ys[i].2.2.2.1.length rc3_12, .bool ys[i].2.2.2.2.1, .slice ra5_12 ys[i].2.2.2.2.2.1.length rc5_12, .slice ra6_12 ys[i].2.2.2.2.2.2.1.length rc6_12, .slice a16 (recB ys[i]).length c16]]), EachP (ItO r 5) (p.2 ++ [[.string (str ys[i].1), .int .i64 ys[i].2.1, .int .i64 ys[i].2.2.1, .slice ra3_12 ys[i].2.2.2.1.length rc3_12, .bool ys[i].2.2.2.2.1, .slice ra5_12 ys[i].2.2.2.2.2.1.length rc5_12, .slice ra6_12 ys[i].2.2.2.2.2.2.1.length rc6_12, .slice a16 (recB ys[i]).length c16]]) (zs ++ [ys[i]])]) (by repeat (first | exact Sels.nil | (apply Sels.cons; focus (repeat (first | exact Sel.here | apply Sel.there))))) (fun m x => ⟨((a52, c52), p.2 ++ [[.string (str ys[i].1), .int .i64 ys[i].2.1, .int .i64 ys[i].2.2.1, .slice ra3_12 ys[i].2.2.2.1.length rc3_12, .bool ys[i].2.2.2.2.1, .slice ra5_12 ys[i].2.2.2.2.2.1.length rc5_12, .slice ra6_12 ys[i].2.2.2.2.2.2.1.length rc6_12, .slice a16 (recB ys[i]).length c16]]), x⟩) ?_
        rw [← htk]
        refine S.pk ?_ (S.melt hm1 (S.weaken ?_ (ih (i + 1) (by exact ⟨by omega, hyes⟩) (by omega))))
        · repeat (first | exact Picks.all | exact Picks.nil | (apply Picks.cons; focus (repeat (first | exact Sel.here | apply Sel.there))) | apply Picks.skip)
        repeat (first | exact Sub.nil | refine Sub.cons rfl ?_)
      · by_cases hk : ys[i].1 = (zs[0]'(by omega)).1
        · have hyes := hsn.2 ⟨e, fun h => hk⟩
          refine S.frzO (by repeat (first | exact Sel.here | apply Sel.there)) fun g hs hm hb5 => ?_
          replace hg := Fr.sub_trans hg hs
          replace hR := melted hR hm
          try replace ha := ha.mono hs
          try replace hp12 := hp12.mono hs
          try replace hr12 := hr12.mono hs
          try replace ha3_12 := ha3_12.mono hs
          try replace ha5_12 := ha5_12.mono hs
          try replace ha6_12 := ha6_12.mono hs
          replace hm1 := meltTrans hm1 hm
          clear hs hm
          have hg_q := hg
          have hR_q := hR
          try have ha_q := ha
          try have hp12_q := hp12
          try have hr12_q := hr12
          try have ha3_12_q := ha3_12
          try have ha5_12_q := ha5_12
          try have ha6_12_q := ha6_12
          try have hb5_q := hb5
          refine S.frzH (B := RowP r 86 88 5 b zs) (by repeat (first | exact Sel.here | apply Sel.there)) fun gq hsq ⟨mq, hmq, hsmq⟩ hbq => ?_
          replace hg := Fr.sub_trans hg hsq
          replace hR := backR hR hbq
          try replace ha := ha.mono hsq
          try replace hp12 := hp12.mono hsq
          try replace hr12 := hr12.mono hsq
          try replace ha3_12 := ha3_12.mono hsq
          try replace ha5_12 := ha5_12.mono hsq
          try replace ha6_12 := ha6_12.mono hsq
          try replace hb5 := hb5.mono hsq
          obtain ⟨qa, qc, hqat, hqar⟩ := RowP.read hg hsmq hmq
          refine S.regionD (L := [0, 1, 2, 3, 4, 5, 6, 7, 8, 9, 10, 11, 12, 13, 14, 15, 16, 17, 18, 19, 20, 21, 22, 23]) FactSib1.mixed (by kernel_rfl) ?_
          refine .quiet (.p rfl) rfl (fun _ => .mv rfl) ?_
          refine .quiet (.p rfl) rfl (fun _ => .eql rfl rfl) ?_
          refine OD.slot 20 (v' := .bool true) rfl (congrArg Value.bool (by simp [recErr, e])) ?_
          refine .quiet (.p rfl) rfl (fun _ => .mv rfl) ?_
          refine .quiet (.g rfl rfl) rfl (fun _ => .mv rfl) ?_
          refine .quiet (.g rfl rfl) rfl (fun _ => .nilCheck rfl) ?_
          refine .quiet (.g rfl rfl) rfl (fun _ => .fieldAddr FactSib1.fld86x0 rfl) ?_
          refine .quiet (.g rfl rfl) rfl (fun _ => .loadAt FactSib1.flat84 rfl hqat rfl) ?_
          refine .quiet (.g rfl rfl) rfl (fun _ => .len rfl Go.Proofs.Try.underlying84 rfl) ?_
          refine .quiet (.g rfl rfl) rfl (fun _ => .eql rfl rfl) ?_
          refine OD.slot 27 (v' := .bool false) rfl (congrArg Value.bool (by exact decide_eq_false (by omega))) ?_
          refine .quiet (.g rfl rfl) rfl (fun _ => .mv rfl) ?_
          refine .quiet (.g rfl rfl) rfl (fun _ => .mv rfl) ?_
          refine .quiet (.g rfl rfl) rfl (fun _ => .nilCheck rfl) ?_
          refine .quiet (.g rfl rfl) rfl (fun _ => .fieldAddr FactSib1.fld86x0 rfl) ?_
          refine .quiet (.g rfl rfl) rfl (fun _ => .loadAt FactSib1.flat84 rfl hqat rfl) ?_
          refine OD.idx' (.g rfl rfl) Go.Proofs.Try.underlying84 FactSib1.size88 rfl rfl (show _ = (((0) : Nat) : Int) by omega) (by first | assumption | exact Arr.mono hg (by assumption) | exact Arr.left (by assumption) | exact Arr.left (Arr.mono hg (by assumption))) (by decide) (by first | omega | (simp; done) | (simp; omega) | decide) (fun p33 cs33 hp33 hr33 => ?_)
          obtain ⟨ia3_33, ia5_33, ia6_33, ia7_33, ic3_33, ic5_33, ic6_33, ic7_33, rfl, hr1_33, ha7_33⟩ := ItRp.sh hr33
          refine .quiet (.g rfl rfl) rfl (fun _ => .fieldAddr FactSib1.fld88x0 rfl) ?_
          refine .quiet (.g rfl rfl) rfl (fun _ => .fieldAddr FactSib1.fld68x0 rfl) ?_
          refine .quiet (.g rfl rfl) rfl (fun _ => .loadAt FactSib1.flat9 rfl hp33 rfl) ?_
          refine .quiet (.g rfl rfl) rfl (fun _ => .fieldAddr FactSib1.fld68x0 rfl) ?_
          refine .quiet (.g rfl rfl) rfl (fun _ => .loadAt FactSib1.flat9 rfl hb5 rfl) ?_
          refine .quiet (.g rfl rfl) rfl (fun _ => .eqlS rfl rfl) ?_
          refine OD.slot 39 (v' := .bool true) rfl (congrArg Value.bool (by simp [hk])) ?_
          refine .quiet (.g rfl rfl) rfl (fun _ => .pickF rfl rfl) ?_
          refine .quiet (.p rfl) rfl (fun _ => .pickT rfl rfl) ?_
          refine OD.callP0 (.p rfl) (by kernel_rfl) rfl FactSib1.ok48 rfl rfl (smust_c _) (fun ch η' w hX hW => by (exact absurd hX.1 (by simp))) ?_
          rintro v42 _ ⟨hb42, rfl, rfl⟩
          try simp only [List.cons_append, List.nil_append, List.append_nil]
          refine .nil ?_
          refine S.back hbq ?_
          replace hg := hg_q
          replace hR := hR_q
          try replace ha := ha_q
          try replace hp12 := hp12_q
          try replace hr12 := hr12_q
          try replace ha3_12 := ha3_12_q
          try replace ha5_12 := ha5_12_q
          try replace ha6_12 := ha6_12_q
          try replace hb5 := hb5_q
          clear hg_q hR_q
          refine S.open (A := RowP r 86 88 5 b zs) (by repeat (first | exact Sel.here | apply Sel.there)) (fun m x => x) fun p => ?_
          simp only [List.cons_append, List.nil_append]
          refine S.factS (B := EachP (ItO r 5) p.2 zs) (by repeat (first | exact Sel.here | apply Sel.there)) (fun _ z => EachP.len z) fun hcl => ?_
          have hpl : p.2.length ≤ 100000000000 := by omega
          have hg_o := hg
          have hR_o := hR
          try have ha_o := ha
          try have hp12_o := hp12
          try have hr12_o := hr12
          try have ha3_12_o := ha3_12
          try have ha5_12_o := ha5_12
          try have ha6_12_o := ha6_12
          try have hb5_o := hb5
          refine S.frzH (B := obj b 86 [.slice p.1.1 zs.length p.1.2]) (by repeat (first | exact Sel.here | apply Sel.there)) fun go hso ⟨mo, hmo, hsmo⟩ hbo => ?_
          replace hg := Fr.sub_trans hg hso
          replace hR := backR hR hbo
          try replace ha := ha.mono hso
          try replace hp12 := hp12.mono hso
          try replace hr12 := hr12.mono hso
          try replace ha3_12 := ha3_12.mono hso
          try replace ha5_12 := ha5_12.mono hso
          try replace ha6_12 := ha6_12.mono hso
          try replace hb5 := hb5.mono hso
          have hato := (obj_at hmo).mono hsmo
          refine S.regionD (L := [0, 1, 2, 3, 4, 5, 6, 7, 8, 9, 10, 11, 12]) FactSib1.mixed (by kernel_rfl) ?_
          refine .quiet (.p rfl) rfl (fun _ => .mv rfl) ?_
          refine .quiet (.p rfl) rfl (fun _ => .mv rfl) ?_
          refine .quiet (.p rfl) rfl (fun _ => .nilCheck rfl) ?_
          refine .quiet (.p rfl) rfl (fun _ => .fieldAddr FactSib1.fld86x0 rfl) ?_
          refine .quiet (.p rfl) rfl (fun _ => .loadAt FactSib1.flat84 rfl hato rfl) ?_
          refine .quiet (.p rfl) rfl (fun _ => .loadAgg Go.Proofs.Try.isAgg68 (by kernel_rfl) rfl hb5) ?_
          refine .quiet (.p rfl) rfl (fun _ => .mv rfl) ?_
          refine .quiet (.p rfl) rfl (fun _ => .build (cs := [_, _, _, _, _, _, _, _]) Go.Proofs.Try.underlying88 rfl rfl rfl rfl rfl) ?_
          refine OD.litP (T := (Rp.cells 8)) (ys := [_]) (.p rfl) (by kernel_rfl) Go.Proofs.Try.underlying84 FactSib1.elem88 (by decide) rfl rfl ⟨⟨rfl, rfl, by first | (simp; done) | (intro v hv; simp [Value.cells] at hv; rcases hv with rfl | rfl <;> rfl) | (refine List.forall_mem_cons.2 ⟨rfl, ?_⟩; repeat (first | exact (fun _ h => absurd h List.not_mem_nil) | refine List.forall_mem_cons.2 ⟨rfl, ?_⟩))⟩, trivial⟩ (by decide) (fun a51 c51 => ?_)
          refine OD.appendO (.p rfl) (by kernel_rfl) (T := (Rp.cells 8)) Go.Proofs.Try.underlying84 FactSib1.elem88 (by decide) rfl rfl (by repeat (first | exact Sel.here | apply Sel.there)) (by repeat (first | exact Sel.here | apply Sel.there)) (by first | omega | (simp; done) | (simp; omega) | decide) (by first | omega | (simp; done) | (simp; omega) | decide) (fun a52 c52 => ?_)
          refine .quiet (.p rfl) rfl (fun _ => .nilCheck rfl) ?_
          refine .quiet (.p rfl) rfl (fun _ => .fieldAddr FactSib1.fld86x0 rfl) ?_
          refine OD.last1 rfl (by kernel_rfl) (fun _ hw => hbo hw) FactSib1.flat84 rfl rfl (by first | rfl | assumption) (by repeat (first | exact Sel.here | apply Sel.there)) (by first | (simp; done) | (simp; omega)) ?_
          replace hg := hg_o
          replace hR := hR_o
          try replace ha := ha_o
          try replace hp12 := hp12_o
          try replace hr12 := hr12_o
          try replace ha3_12 := ha3_12_o
          try replace ha5_12 := ha5_12_o
          try replace ha6_12 := ha6_12_o
          try replace hb5 := hb5_o
          clear hg_o hR_o
          refine S.inBlock (S.region rfl ?_)
          refine O.op (.p rfl) (.add rfl rfl (IntWalk.i64_in _ (by omega))) ?_
          refine O.op (.p rfl) (.mv rfl) ?_
          refine O.nil ?_
          refine S.ownIs (T := Rp.cells 8) (e := 88) (v' := .slice a52 (zs ++ [ys[i]]).length c52) (xs' := p.2 ++ [[.string (str ys[i].1), .int .i64 ys[i].2.1, .int .i64 ys[i].2.2.1, .slice ra3_12 ys[i].2.2.2.1.length rc3_12, .bool ys[i].2.2.2.2.1, .slice ra5_12 ys[i].2.2.2.2.2.1.length rc5_12, .slice ra6_12 ys[i].2.2.2.2.2.2.1.length rc6_12, .slice a16 (recB ys[i]).length c16]]) (by repeat (first | exact Sel.here | apply Sel.there)) (by simp [hcl]) (by simp [Value.cells]) ?_
          refine S.objIs (b := b) (cs' := [.slice a52 (zs ++ [ys[i]]).length c52]) (by repeat (first | exact Sel.here | apply Sel.there)) (by simp [hcl]) ?_
          refine S.conv (B := OwnP Rp.u8 5 (.slice a16 (recB ys[i]).length c16) (recB ys[i])) (C := ItO r 5 [.string (str ys[i].1), .int .i64 ys[i].2.1, .int .i64 ys[i].2.2.1, .slice ra3_12 ys[i].2.2.2.1.length rc3_12, .bool ys[i].2.2.2.2.1, .slice ra5_12 ys[i].2.2.2.2.2.1.length rc5_12, .slice ra6_12 ys[i].2.2.2.2.2.2.1.length rc6_12, .slice a16 (recB ys[i]).length c16] ys[i]) (by repeat (first | exact Sel.here | apply Sel.there)) (fun m x => ⟨m, Fr.sub_refl _, [.string (str ys[i].1), .int .i64 ys[i].2.1, .int .i64 ys[i].2.2.1, .slice ra3_12 ys[i].2.2.2.1.length rc3_12, .bool ys[i].2.2.2.2.1, .slice ra5_12 ys[i].2.2.2.2.2.1.length rc5_12, .slice ra6_12 ys[i].2.2.2.2.2.2.1.length rc6_12], a16, c16, rfl, hrr12, x⟩) ?_
          refine S.each (A := ItO r 5) (bs := p.2) (b := [.string (str ys[i].1), .int .i64 ys[i].2.1, .int .i64 ys[i].2.2.1, .slice ra3_12 ys[i].2.2.2.1.length rc3_12, .bool ys[i].2.2.2.2.1, .slice ra5_12 ys[i].2.2.2.2.2.1.length rc5_12, .slice ra6_12 ys[i].2.2.2.2.2.2.1.length rc6_12, .slice a16 (recB ys[i]).length c16]) (a := ys[i]) (by repeat (first | exact Sel.here | apply Sel.there)) (by repeat (first | exact Sel.here | apply Sel.there)) ?_
          refine S.foldS (A := RowP r 86 88 5 b (zs ++ [ys[i]])) (bs := [obj b 86 [.slice a52 (zs ++ [ys[i]]).length c52], OwnP (Rp.cells 8) 88 (.slice a52 (zs ++ [ys[i]]).length c52) (p.2 ++ [[.string (str ys[i].1), .int .i64 ys[i].2.1, .int .i64 ys[i].2.2.1, .slice ra3_12 ys[i].2.2.2.1.length rc3_12, .bool ys[i].2.2.2.2.1, .slice ra5_12 ys[i].2.2.2.2.2.1.length rc5_12, .slice ra6_12 ys[i].2.2.2.2.2.2.1.length rc6_12, .slice a16 (recB ys[i]).length c16]]), EachP (ItO r 5) (p.2 ++ [[.string (str ys[i].1), .int .i64 ys[i].2.1, .int .i64 ys[i].2.2.1, .slice ra3_12 ys[i].2.2.2.1.length rc3_12, .bool ys[i].2.2.2.2.1, .slice ra5_12 ys[i].2.2.2.2.2.1.length rc5_12, .slice ra6_12 ys[i].2.2.2.2.2.2.1.length rc6_12, .slice a16 (recB ys[i]).length c16]]) (zs ++ [ys[i]])]) (by repeat (first | exact Sels.nil | (apply Sels.cons; focus (repeat (first | exact Sel.here | apply Sel.there))))) (fun m x => ⟨((a52, c52), p.2 ++ [[.string (str ys[i].1), .int .i64 ys[i].2.1, .int .i64 ys[i].2.2.1, .slice ra3_12 ys[i].2.2.2.1.length rc3_12, .bool ys[i].2.2.2.2.1, .slice ra5_12 ys[i].2.2.2.2.2.1.length rc5_12, .slice ra6_12 ys[i].2.2.2.2.2.2.1.length rc6_12, .slice a16 (recB ys[i]).length c16]]), x⟩) ?_
          rw [← htk]
          refine S.pk ?_ (S.melt hm1 (S.weaken ?_ (ih (i + 1) (by exact ⟨by omega, hyes⟩) (by omega))))
          · repeat (first | exact Picks.all | exact Picks.nil | (apply Picks.cons; focus (repeat (first | exact Sel.here | apply Sel.there))) | apply Picks.skip)
          repeat (first | exact Sub.nil | refine Sub.cons rfl ?_)
        · have hno : oneK (xs ++ ys) = false := hbad (by rw [Bool.eq_false_iff]; intro q; exact hk ((hsn.1 q).2 (by omega)))
          refine S.frzO (by repeat (first | exact Sel.here | apply Sel.there)) fun g hs hm hb5 => ?_
          replace hg := Fr.sub_trans hg hs
          replace hR := melted hR hm
          try replace ha := ha.mono hs
          try replace hp12 := hp12.mono hs
          try replace hr12 := hr12.mono hs
          try replace ha3_12 := ha3_12.mono hs
          try replace ha5_12 := ha5_12.mono hs
          try replace ha6_12 := ha6_12.mono hs
          replace hm1 := meltTrans hm1 hm
          clear hs hm
          have hg_q := hg
          have hR_q := hR
          try have ha_q := ha
          try have hp12_q := hp12
          try have hr12_q := hr12
          try have ha3_12_q := ha3_12
          try have ha5_12_q := ha5_12
          try have ha6_12_q := ha6_12
          try have hb5_q := hb5
          refine S.frzH (B := RowP r 86 88 5 b zs) (by repeat (first | exact Sel.here | apply Sel.there)) fun gq hsq ⟨mq, hmq, hsmq⟩ hbq => ?_
          replace hg := Fr.sub_trans hg hsq
          replace hR := backR hR hbq
          try replace ha := ha.mono hsq
          try replace hp12 := hp12.mono hsq
          try replace hr12 := hr12.mono hsq
          try replace ha3_12 := ha3_12.mono hsq
          try replace ha5_12 := ha5_12.mono hsq
          try replace ha6_12 := ha6_12.mono hsq
          try replace hb5 := hb5.mono hsq
          obtain ⟨qa, qc, hqat, hqar⟩ := RowP.read hg hsmq hmq
          refine S.regionD (L := [0, 1, 2, 3, 4, 5, 6, 7, 8, 9, 10, 11, 12, 13, 14, 15, 16, 17, 18, 19, 20, 21, 22, 23]) FactSib1.mixed (by kernel_rfl) ?_
          refine .quiet (.p rfl) rfl (fun _ => .mv rfl) ?_
          refine .quiet (.p rfl) rfl (fun _ => .eql rfl rfl) ?_
          refine OD.slot 20 (v' := .bool true) rfl (congrArg Value.bool (by simp [recErr, e])) ?_
          refine .quiet (.p rfl) rfl (fun _ => .mv rfl) ?_
          refine .quiet (.g rfl rfl) rfl (fun _ => .mv rfl) ?_
          refine .quiet (.g rfl rfl) rfl (fun _ => .nilCheck rfl) ?_
          refine .quiet (.g rfl rfl) rfl (fun _ => .fieldAddr FactSib1.fld86x0 rfl) ?_
          refine .quiet (.g rfl rfl) rfl (fun _ => .loadAt FactSib1.flat84 rfl hqat rfl) ?_
          refine .quiet (.g rfl rfl) rfl (fun _ => .len rfl Go.Proofs.Try.underlying84 rfl) ?_
          refine .quiet (.g rfl rfl) rfl (fun _ => .eql rfl rfl) ?_
          refine OD.slot 27 (v' := .bool false) rfl (congrArg Value.bool (by exact decide_eq_false (by omega))) ?_
          refine .quiet (.g rfl rfl) rfl (fun _ => .mv rfl) ?_
          refine .quiet (.g rfl rfl) rfl (fun _ => .mv rfl) ?_
          refine .quiet (.g rfl rfl) rfl (fun _ => .nilCheck rfl) ?_
          refine .quiet (.g rfl rfl) rfl (fun _ => .fieldAddr FactSib1.fld86x0 rfl) ?_
          refine .quiet (.g rfl rfl) rfl (fun _ => .loadAt FactSib1.flat84 rfl hqat rfl) ?_
          refine OD.idx' (.g rfl rfl) Go.Proofs.Try.underlying84 FactSib1.size88 rfl rfl (show _ = (((0) : Nat) : Int) by omega) (by first | assumption | exact Arr.mono hg (by assumption) | exact Arr.left (by assumption) | exact Arr.left (Arr.mono hg (by assumption))) (by decide) (by first | omega | (simp; done) | (simp; omega) | decide) (fun p33 cs33 hp33 hr33 => ?_)
          obtain ⟨ia3_33, ia5_33, ia6_33, ia7_33, ic3_33, ic5_33, ic6_33, ic7_33, rfl, hr1_33, ha7_33⟩ := ItRp.sh hr33
          refine .quiet (.g rfl rfl) rfl (fun _ => .fieldAddr FactSib1.fld88x0 rfl) ?_
          refine .quiet (.g rfl rfl) rfl (fun _ => .fieldAddr FactSib1.fld68x0 rfl) ?_
          refine .quiet (.g rfl rfl) rfl (fun _ => .loadAt FactSib1.flat9 rfl hp33 rfl) ?_
          refine .quiet (.g rfl rfl) rfl (fun _ => .fieldAddr FactSib1.fld68x0 rfl) ?_
          refine .quiet (.g rfl rfl) rfl (fun _ => .loadAt FactSib1.flat9 rfl hb5 rfl) ?_
          refine .quiet (.g rfl rfl) rfl (fun _ => .eqlS rfl rfl) ?_
          refine OD.slot 39 (v' := .bool false) rfl (congrArg Value.bool (by simp; exact fun q => hk q.symm)) ?_
          refine .quiet (.g rfl rfl) rfl (fun _ => .pickF rfl rfl) ?_
          refine .quiet (.p rfl) rfl (fun _ => .pickT rfl rfl) ?_
          refine OD.callP0 (.p rfl) (by kernel_rfl) rfl FactSib1.ok48 rfl rfl (smust_c _) (fun ch η' w hX hW => by (obtain ⟨hb, rfl, rfl⟩ := hX; exact hR _ _ w ⟨hno, rfl, rfl⟩ hW.drop_all)) ?_
          rintro v42 _ ⟨hb42, rfl, rfl⟩
          try simp only [List.cons_append, List.nil_append, List.append_nil]
          exact absurd hb42 (by simp)
  · clear ih
    have hi : i = ys.length := by omega
    subst hi
    rw [List.take_length] at hx2 ⊢
    refine S.exit rfl ?_
    refine S.end0 Go.Proofs.Try.results47 fun w hw => Holds.end_ hR hw ?_
    exact ⟨_, ⟨hx2, rfl, rfl⟩, by repeat (first | exact Picks.all | exact Picks.nil | (apply Picks.cons; focus (repeat (first | exact Sel.here | apply Sel.there))) | apply Picks.skip)⟩

end Go.Proofs.Ytodhbhanmdfdeaa
