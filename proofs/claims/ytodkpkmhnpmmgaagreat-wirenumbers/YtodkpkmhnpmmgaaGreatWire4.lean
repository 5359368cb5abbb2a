import Derived.Test.YtodkpkmhnpmmgaaGreatWire3
open Go Go.Sp
set_option maxRecDepth 100000
attribute [local irreducible] obj Own OwnP
namespace Go.Proofs.YtodkpkmhnpmmgaaGreat
theorem FactWire4.elem23 : elemIs Go.Proofs.Tryz.prog 23 1 24 [.slice none 0 0] := elemIs.mk (by kernel_rfl) rfl
theorem FactWire4.elem5 : elemIs Go.Proofs.Tryz.prog 5 1 1 [.int .u8 0] := elemIs.mk (by kernel_rfl) rfl
theorem FactWire4.flat5 : Go.Sp.flat1 Go.Proofs.Tryz.prog 5 = true := by kernel_rfl
theorem FactWire4.ok10 : callable Go.Proofs.Tryz.prog 10 = true := by kernel_rfl
theorem FactWire4.ok13 : callable Go.Proofs.Tryz.prog 13 = true := by kernel_rfl
theorem FactWire4.ok18 : callable Go.Proofs.Tryz.prog 18 = true := by kernel_rfl
theorem FactWire4.ok21 : callable Go.Proofs.Tryz.prog 21 = true := by kernel_rfl
theorem FactWire4.ok23 : callable Go.Proofs.Tryz.prog 23 = true := by kernel_rfl
theorem FactWire4.ok28 : callable Go.Proofs.Tryz.prog 28 = true := by kernel_rfl
theorem FactWire4.ok29 : callable Go.Proofs.Tryz.prog 29 = true := by kernel_rfl
theorem FactWire4.ok30 : callable Go.Proofs.Tryz.prog 30 = true := by kernel_rfl
theorem FactWire4.ok8 : callable Go.Proofs.Tryz.prog 8 = true := by kernel_rfl
theorem FactWire4.ok9 : callable Go.Proofs.Tryz.prog 9 = true := by kernel_rfl
theorem FactWire4.size5 : (Go.Proofs.Tryz.prog.info? 5).map (·.size) = some 1 := by kernel_rfl
/-- a thing from a number: 0 .. n-1 -/
def pick (x n : Int) : Int := if n < 1 then 0 else if x.tmod n < 0 then x.tmod n + n else x.tmod n
theorem Pick_c {r : Fr} (x n : Int) (hn : InI64 n) : Con Go.Proofs.Tryz.prog 37 #[.int .i64 x, .int .i64 n] r [] (Ret fun v η => v = .int .i64 (pick x n) ∧ η = []) := by
  refine Con.of (n := 16) [.int .i64 x, .int .i64 n] rfl Go.Proofs.Tryz.func37 rfl rfl rfl fun g hg R hR => ?_
  unfold InI64 at hn
  refine S.seq (S.region rfl ?_)
  refine O.op (.p rfl) (.as rfl) ?_
  refine O.nil ?_
  refine S.seq (S.seq (S.region rfl ?_))
  refine O.op (.p rfl) (.mv rfl) ?_
  refine O.op (.p rfl) (.lss rfl rfl) ?_
  refine O.nil ?_
  first | refine S.condD rfl (fun h6 => ?_) (fun h6 => ?_) | refine S.condB rfl (fun h6 => ?_) (fun h6 => ?_)
  · refine S.seq (S.region rfl ?_)
    refine O.op (.p rfl) (.as rfl) ?_
    refine O.nil ?_
    refine S.ret Go.Proofs.Tryz.results37 rfl fun w hw => hR _ _ w ?_ hw
    exact ⟨by simp [pick, h6], rfl⟩
  · have b1 := Int.tmod_lt_of_pos x (show 0 < n by omega)
    have b2 := Int.lt_tmod_of_pos x (show 0 < n by omega)
    refine S.skip (S.seq (S.region rfl ?_))
    refine O.op (.p rfl) (.mv rfl) ?_
    refine O.op (.p rfl) (.mv rfl) ?_
    refine O.op (.p rfl) (.rem rfl rfl (by omega)) ?_
    refine O.op (.p rfl) (.as rfl) ?_
    refine O.nil ?_
    refine S.seq (S.seq (S.region rfl ?_))
    refine O.op (.p rfl) (.mv rfl) ?_
    refine O.op (.p rfl) (.lss rfl rfl) ?_
    refine O.nil ?_
    first | refine S.condD rfl (fun h11 => ?_) (fun h11 => ?_) | refine S.condB rfl (fun h11 => ?_) (fun h11 => ?_)
    · refine S.region rfl ?_
      refine O.op (.p rfl) (.mv rfl) ?_
      refine O.op (.p rfl) (.mv rfl) ?_
      refine O.op (.p rfl) (.add rfl rfl (IntWalk.i64_in _ (by omega))) ?_
      refine O.op (.p rfl) (.as rfl) ?_
      refine O.nil ?_
      refine S.seq (S.region rfl ?_)
      refine O.op (.p rfl) (.mv rfl) ?_
      refine O.op (.p rfl) (.as rfl) ?_
      refine O.nil ?_
      refine S.ret Go.Proofs.Tryz.results37 rfl fun w hw => hR _ _ w ?_ hw
      exact ⟨by simp [pick, h6, h11], rfl⟩
    · refine S.skip (S.seq (S.region rfl ?_))
      refine O.op (.p rfl) (.mv rfl) ?_
      refine O.op (.p rfl) (.as rfl) ?_
      refine O.nil ?_
      refine S.ret Go.Proofs.Tryz.results37 rfl fun w hw => hR _ _ w ?_ hw
      exact ⟨by simp [pick, h6, h11], rfl⟩

theorem rBytes_e {r : Fr} {b : Nat} {v : Value} {rest out rest' : List UInt8} {made bad f bad' : Bool} (most : Int) (ha : Arr Rp.u8 r v rest) (hl : rest.length ≤ 140737488355328) (h : rBytes most (made && !bad) rest = (out, rest', f)) (hb : (bad || f) = bad') :
    Con Go.Proofs.Tryz.prog 29 #[.pointer (some ⟨b, 0, none⟩), .int .i64 most] r [obj b 82 [v, .bool made, .bool bad]]
      (Ret fun u η => ∃ a c v', u = .slice a out.length c ∧ Arr Rp.u8 r v' rest' ∧ η = [obj b 82 [v', .bool made, .bool bad'], OwnP Rp.u8 5 u out]) := by
  have := rBytes_c (b := b) (made := made) (bad := bad) most ha hl
  rw [h] at this; subst hb; exact this
theorem rCount_e {r : Fr} {b : Nat} {v : Value} {rest rest' : List UInt8} {made bad f bad' : Bool} {z : Int} (most : Int) (ha : Arr Rp.u8 r v rest) (h : rCount most (made && !bad) rest = (z, rest', f)) (hb : (bad || f) = bad') :
    Con Go.Proofs.Tryz.prog 38 #[.pointer (some ⟨b, 0, none⟩), .int .i64 most] r [obj b 82 [v, .bool made, .bool bad]]
      (Ret fun u η => ∃ v', u = .int .i64 z ∧ Arr Rp.u8 r v' rest' ∧ η = [obj b 82 [v', .bool made, .bool bad']]) := by
  have := rCount_c (b := b) (made := made) (bad := bad) most ha
  rw [h] at this; subst hb; exact this
theorem rNumber_e {r : Fr} {b : Nat} {v : Value} {rest rest' : List UInt8} {made bad f bad' : Bool} {z : Int} (ha : Arr Rp.u8 r v rest) (h : rNum (made && !bad) rest = (z, rest', f)) (hb : (bad || f) = bad') :
    Con Go.Proofs.Tryz.prog 28 #[.pointer (some ⟨b, 0, none⟩)] r [obj b 82 [v, .bool made, .bool bad]]
      (Ret fun u η => ∃ v', u = .int .i64 z ∧ Arr Rp.u8 r v' rest' ∧ η = [obj b 82 [v', .bool made, .bool bad']]) := by
  have := rNumber_c (b := b) (made := made) (bad := bad) ha
  rw [h] at this; subst hb; exact this
theorem rByte_e {r : Fr} {b : Nat} {v : Value} {rest rest' : List UInt8} {made bad f bad' : Bool} {z : UInt8} (ha : Arr Rp.u8 r v rest) (h : rByte (made && !bad) rest = (z, rest', f)) (hb : (bad || f) = bad') :
    Con Go.Proofs.Tryz.prog 30 #[.pointer (some ⟨b, 0, none⟩)] r [obj b 82 [v, .bool made, .bool bad]]
      (Ret fun u η => ∃ v', u = byteV z ∧ Arr Rp.u8 r v' rest' ∧ η = [obj b 82 [v', .bool made, .bool bad']]) := by
  have := rByte_c (b := b) (made := made) (bad := bad) ha
  rw [h] at this; subst hb; exact this

theorem awake_c {r : Fr} : Con Go.Proofs.Tryz.prog 6 #[] r [] (Ret fun v η => v = .bool true ∧ η = []) := by
  refine Con.of (n := 61) [] rfl Go.Proofs.Tryz.func6 rfl rfl rfl fun g hg R hR => ?_
  refine S.seq (S.region rfl ?_)
  refine O.op (.p rfl) (.as rfl) ?_
  refine O.nil ?_
  refine S.seq (S.seq (S.region rfl ?_))
  refine O.call0 (.p rfl) rfl FactWire4.ok8 rfl rfl (wNumber_c _) ?_
  rintro v5 _ ⟨a5, c5, rfl, rfl⟩
  try simp only [List.cons_append, List.nil_append, List.append_nil]
  refine O.frzA (by repeat (first | exact Sel.here | apply Sel.there)) fun g hs hm ha5 => ?_
  replace hg := Fr.sub_trans hg hs
  replace hR := melted hR hm
  clear hs hm
  refine O.opE (.p rfl) (.litP (T := Rp.u8) (ys := [0, 0, 0, 0, 0, 0, 1, 2]) Go.Proofs.Tryz.underlying23 FactWire4.elem5 (by decide) rfl rfl ⟨rfl, rfl, rfl, rfl, rfl, rfl, rfl, rfl, trivial⟩ (by decide)) ?_
  rintro _ _ ⟨a6, c6, rfl, rfl⟩
  refine O.frzA (by repeat (first | exact Sel.here | apply Sel.there)) fun g hs hm ha6 => ?_
  replace hg := Fr.sub_trans hg hs
  replace hR := melted hR hm
  try replace ha5 := ha5.mono hs
  clear hs hm
  refine O.call0 (.p rfl) rfl FactWire4.ok10 rfl rfl (SameBytes_c (by first | assumption | exact Arr.mono hg (by assumption) | exact Arr.left (by assumption) | exact Arr.left (Arr.mono hg (by assumption))) (by first | assumption | exact Arr.mono hg (by assumption) | exact Arr.left (by assumption) | exact Arr.left (Arr.mono hg (by assumption)))) ?_
  rintro v7 _ ⟨rfl, rfl⟩
  try simp only [List.cons_append, List.nil_append, List.append_nil]
  refine O.slot 7 (v' := .bool true) rfl (congrArg Value.bool (by first | decide | simp)) ?_
  refine O.op (.p rfl) (.not rfl) ?_
  refine O.op (.p rfl) (.mv rfl) ?_
  refine O.call0 (.g rfl rfl) rfl FactWire4.ok8 rfl rfl (wNumber_c _) ?_
  rintro v10 _ ⟨a10, c10, rfl, rfl⟩
  try simp only [List.cons_append, List.nil_append, List.append_nil]
  refine O.frzA (by repeat (first | exact Sel.here | apply Sel.there)) fun g hs hm ha10 => ?_
  replace hg := Fr.sub_trans hg hs
  replace hR := melted hR hm
  try replace ha5 := ha5.mono hs
  try replace ha6 := ha6.mono hs
  clear hs hm
  refine O.idx' (.g rfl rfl) Go.Proofs.Tryz.underlying23 FactWire4.size5 rfl rfl (show _ = ((0 : Nat) : Int) from rfl) (by first | assumption | exact Arr.mono hg (by assumption) | exact Arr.left (by assumption) | exact Arr.left (Arr.mono hg (by assumption))) (by decide) (by first | omega | (simp; done) | (simp; omega) | decide) (fun p11 cs11 hp11 hr11 => ?_)
  cases hr11
  refine O.op (.g rfl rfl) (.loadAt FactWire4.flat5 rfl hp11 rfl) ?_
  refine O.op (.g rfl rfl) (.neq rfl rfl) ?_
  refine O.slot 13 (v' := .bool false) rfl (congrArg Value.bool (by first | decide | simp)) ?_
  refine O.op (.p rfl) (.pickF rfl rfl) ?_
  refine O.op (.p rfl) (.mv rfl) ?_
  refine O.opE (.g rfl rfl) (.litP (T := Rp.u8) (ys := [97, 98]) Go.Proofs.Tryz.underlying23 FactWire4.elem5 (by decide) rfl rfl ⟨rfl, rfl, trivial⟩ (by decide)) ?_
  rintro _ _ ⟨a16, c16, rfl, rfl⟩
  refine O.opE (.g rfl rfl) (.toBytes Go.Proofs.Tryz.underlying23 Go.Proofs.Tryz.underlying5 rfl (by repeat (first | exact Sel.here | apply Sel.there)) (by first | omega | (simp; done) | (simp; omega) | decide)) ?_
  rintro _ _ ⟨rfl, rfl⟩
  refine O.frzW Sel.here fun g hs hm ha17 => ?_
  replace hg := Fr.sub_trans hg hs
  replace hR := melted hR hm
  try replace ha5 := ha5.mono hs
  try replace ha6 := ha6.mono hs
  try replace ha10 := ha10.mono hs
  try replace hp11 := hp11.mono hs
  clear hs hm
  refine O.call0 (.g rfl rfl) rfl FactWire4.ok13 rfl rfl (wBytes_c (by first | assumption | exact Arr.mono hg (by assumption) | exact Arr.left (by assumption) | exact Arr.left (Arr.mono hg (by assumption))) (by first | omega | (simp; done) | (simp; omega) | decide)) ?_
  rintro v18 _ ⟨a18, c18, rfl, rfl⟩
  try simp only [List.cons_append, List.nil_append, List.append_nil]
  refine O.frzA (by repeat (first | exact Sel.here | apply Sel.there)) fun g hs hm ha18 => ?_
  replace hg := Fr.sub_trans hg hs
  replace hR := melted hR hm
  try replace ha5 := ha5.mono hs
  try replace ha6 := ha6.mono hs
  try replace ha10 := ha10.mono hs
  try replace hp11 := hp11.mono hs
  try replace ha17 := ha17.mono hs
  clear hs hm
  refine O.opE (.g rfl rfl) (.litP (T := Rp.u8) (ys := [0, 0, 0, 0, 0, 0, 0, 2, 97, 98]) Go.Proofs.Tryz.underlying23 FactWire4.elem5 (by decide) rfl rfl ⟨rfl, rfl, rfl, rfl, rfl, rfl, rfl, rfl, rfl, rfl, trivial⟩ (by decide)) ?_
  rintro _ _ ⟨a19, c19, rfl, rfl⟩
  refine O.frzA (by repeat (first | exact Sel.here | apply Sel.there)) fun g hs hm ha19 => ?_
  replace hg := Fr.sub_trans hg hs
  replace hR := melted hR hm
  try replace ha5 := ha5.mono hs
  try replace ha6 := ha6.mono hs
  try replace ha10 := ha10.mono hs
  try replace hp11 := hp11.mono hs
  try replace ha17 := ha17.mono hs
  try replace ha18 := ha18.mono hs
  clear hs hm
  refine O.call0 (.g rfl rfl) rfl FactWire4.ok10 rfl rfl (SameBytes_c (by first | assumption | exact Arr.mono hg (by assumption) | exact Arr.left (by assumption) | exact Arr.left (Arr.mono hg (by assumption))) (by first | assumption | exact Arr.mono hg (by assumption) | exact Arr.left (by assumption) | exact Arr.left (Arr.mono hg (by assumption)))) ?_
  rintro v20 _ ⟨rfl, rfl⟩
  try simp only [List.cons_append, List.nil_append, List.append_nil]
  refine O.slot 20 (v' := .bool true) rfl (congrArg Value.bool (by first | decide | simp)) ?_
  refine O.op (.g rfl rfl) (.not rfl) ?_
  refine O.op (.p rfl) (.pickF rfl rfl) ?_
  refine O.nil ?_
  refine S.condF rfl ?_
  refine S.skip (S.seq (S.region rfl ?_))
  refine O.opE (.p rfl) (.litP (T := Rp.u8) (ys := [97]) Go.Proofs.Tryz.underlying23 FactWire4.elem5 (by decide) rfl rfl ⟨rfl, trivial⟩ (by decide)) ?_
  rintro _ _ ⟨a23, c23, rfl, rfl⟩
  refine O.opE (.p rfl) (.toBytes Go.Proofs.Tryz.underlying23 Go.Proofs.Tryz.underlying5 rfl (by repeat (first | exact Sel.here | apply Sel.there)) (by first | omega | (simp; done) | (simp; omega) | decide)) ?_
  rintro _ _ ⟨rfl, rfl⟩
  refine O.frzW Sel.here fun g hs hm ha24 => ?_
  replace hg := Fr.sub_trans hg hs
  replace hR := melted hR hm
  try replace ha5 := ha5.mono hs
  try replace ha6 := ha6.mono hs
  try replace ha10 := ha10.mono hs
  try replace hp11 := hp11.mono hs
  try replace ha17 := ha17.mono hs
  try replace ha18 := ha18.mono hs
  try replace ha19 := ha19.mono hs
  clear hs hm
  refine O.call0 (.p rfl) rfl FactWire4.ok13 rfl rfl (wBytes_c (by first | assumption | exact Arr.mono hg (by assumption) | exact Arr.left (by assumption) | exact Arr.left (Arr.mono hg (by assumption))) (by first | omega | (simp; done) | (simp; omega) | decide)) ?_
  rintro v25 _ ⟨a25, c25, rfl, rfl⟩
  try simp only [List.cons_append, List.nil_append, List.append_nil]
  refine O.frzA (by repeat (first | exact Sel.here | apply Sel.there)) fun g hs hm ha25 => ?_
  replace hg := Fr.sub_trans hg hs
  replace hR := melted hR hm
  try replace ha5 := ha5.mono hs
  try replace ha6 := ha6.mono hs
  try replace ha10 := ha10.mono hs
  try replace hp11 := hp11.mono hs
  try replace ha17 := ha17.mono hs
  try replace ha18 := ha18.mono hs
  try replace ha19 := ha19.mono hs
  try replace ha24 := ha24.mono hs
  clear hs hm
  refine O.call0 (.p rfl) rfl FactWire4.ok8 rfl rfl (wNumber_c _) ?_
  rintro v26 _ ⟨a26, c26, rfl, rfl⟩
  try simp only [List.cons_append, List.nil_append, List.append_nil]
  refine O.frzA (by repeat (first | exact Sel.here | apply Sel.there)) fun g hs hm ha26 => ?_
  replace hg := Fr.sub_trans hg hs
  replace hR := melted hR hm
  try replace ha5 := ha5.mono hs
  try replace ha6 := ha6.mono hs
  try replace ha10 := ha10.mono hs
  try replace hp11 := hp11.mono hs
  try replace ha17 := ha17.mono hs
  try replace ha18 := ha18.mono hs
  try replace ha19 := ha19.mono hs
  try replace ha24 := ha24.mono hs
  try replace ha25 := ha25.mono hs
  clear hs hm
  refine O.opE (.p rfl) (.litP (T := Rp.val) (ys := [_, _]) Go.Proofs.Tryz.underlying22 FactWire4.elem23 (by decide) rfl rfl ⟨⟨rfl, rfl⟩, ⟨rfl, rfl⟩, trivial⟩ (by decide)) ?_
  rintro _ _ ⟨a27, c27, rfl, rfl⟩
  refine O.frzA (by repeat (first | exact Sel.here | apply Sel.there)) fun g hs hm ha27 => ?_
  replace hg := Fr.sub_trans hg hs
  replace hR := melted hR hm
  try replace ha5 := ha5.mono hs
  try replace ha6 := ha6.mono hs
  try replace ha10 := ha10.mono hs
  try replace hp11 := hp11.mono hs
  try replace ha17 := ha17.mono hs
  try replace ha18 := ha18.mono hs
  try replace ha19 := ha19.mono hs
  try replace ha24 := ha24.mono hs
  try replace ha25 := ha25.mono hs
  try replace ha26 := ha26.mono hs
  clear hs hm
  refine O.call0 (.p rfl) rfl FactWire4.ok9 rfl rfl ((wJoin_c (xss := [bytesOf [97], be 7]) (ha27.rows ⟨ha25, ha26, trivial⟩) (by simp))) ?_
  rintro v28 _ ⟨a28, c28, rfl, rfl⟩
  try simp only [List.cons_append, List.nil_append, List.append_nil]
  refine O.frzA (by repeat (first | exact Sel.here | apply Sel.there)) fun g hs hm ha28 => ?_
  replace hg := Fr.sub_trans hg hs
  replace hR := melted hR hm
  try replace ha5 := ha5.mono hs
  try replace ha6 := ha6.mono hs
  try replace ha10 := ha10.mono hs
  try replace hp11 := hp11.mono hs
  try replace ha17 := ha17.mono hs
  try replace ha18 := ha18.mono hs
  try replace ha19 := ha19.mono hs
  try replace ha24 := ha24.mono hs
  try replace ha25 := ha25.mono hs
  try replace ha26 := ha26.mono hs
  try replace ha27 := ha27.mono hs
  clear hs hm
  refine O.call0 (.p rfl) rfl FactWire4.ok18 rfl rfl (wNewReader_c (by first | assumption | exact Arr.mono hg (by assumption) | exact Arr.left (by assumption) | exact Arr.left (Arr.mono hg (by assumption))) (by first | omega | (simp; done) | (simp; omega) | decide)) ?_
  rintro v29 _ ⟨b29, a29, c29, rfl, rfl⟩
  try simp only [List.cons_append, List.nil_append, List.append_nil]
  refine O.frzA (by repeat (first | exact Sel.here | apply Sel.there)) fun g hs hm ha29 => ?_
  replace hg := Fr.sub_trans hg hs
  replace hR := melted hR hm
  try replace ha5 := ha5.mono hs
  try replace ha6 := ha6.mono hs
  try replace ha10 := ha10.mono hs
  try replace hp11 := hp11.mono hs
  try replace ha17 := ha17.mono hs
  try replace ha18 := ha18.mono hs
  try replace ha19 := ha19.mono hs
  try replace ha24 := ha24.mono hs
  try replace ha25 := ha25.mono hs
  try replace ha26 := ha26.mono hs
  try replace ha27 := ha27.mono hs
  try replace ha28 := ha28.mono hs
  clear hs hm
  refine O.op (.p rfl) (.as rfl) ?_
  refine O.nil ?_
  refine S.seq (S.region rfl ?_)
  refine O.op (.p rfl) (.mv rfl) ?_
  refine O.callS (.p rfl) rfl FactWire4.ok29 rfl rfl (by repeat (first | exact Sel.here | apply Sel.there)) (rBytes_e (out := [97]) (rest' := be 7) (f := false) (bad' := false) 1 ha29 (by decide) (by decide) rfl) ?_
  rintro v31 _ ⟨a31, c31, v31', rfl, ha31', rfl⟩
  try simp only [List.cons_append, List.nil_append, List.append_nil]
  refine O.frzA (by repeat (first | exact Sel.here | apply Sel.there)) fun g hs hm ha31 => ?_
  replace hg := Fr.sub_trans hg hs
  replace hR := melted hR hm
  try replace ha5 := ha5.mono hs
  try replace ha6 := ha6.mono hs
  try replace ha10 := ha10.mono hs
  try replace hp11 := hp11.mono hs
  try replace ha17 := ha17.mono hs
  try replace ha18 := ha18.mono hs
  try replace ha19 := ha19.mono hs
  try replace ha24 := ha24.mono hs
  try replace ha25 := ha25.mono hs
  try replace ha26 := ha26.mono hs
  try replace ha27 := ha27.mono hs
  try replace ha28 := ha28.mono hs
  try replace ha29 := ha29.mono hs
  try replace ha31' := ha31'.mono hs
  clear hs hm
  refine O.op (.p rfl) (.mv rfl) ?_
  refine O.callS (.p rfl) rfl FactWire4.ok28 rfl rfl (by repeat (first | exact Sel.here | apply Sel.there)) (rNumber_e (z := 7) (rest' := []) (f := false) (bad' := false) ha31' (by decide) rfl) ?_
  rintro v33 _ ⟨v33', rfl, ha33', rfl⟩
  try simp only [List.cons_append, List.nil_append, List.append_nil]
  refine O.op (.p rfl) (.as rfl) ?_
  refine O.op (.p rfl) (.as rfl) ?_
  refine O.nil ?_
  refine S.seq (S.region rfl ?_)
  refine O.op (.p rfl) (.mv rfl) ?_
  refine O.callS (.p rfl) rfl FactWire4.ok23 rfl rfl (by repeat (first | exact Sel.here | apply Sel.there)) (rDone_c ha33') ?_
  rintro v35 _ ⟨rfl, rfl⟩
  try simp only [List.cons_append, List.nil_append, List.append_nil]
  refine O.slot 35 (v' := .bool true) rfl (congrArg Value.bool (by first | decide | simp)) ?_
  refine O.op (.p rfl) (.as rfl) ?_
  refine O.nil ?_
  refine S.seq (S.region rfl ?_)
  refine O.op (.p rfl) (.mv rfl) ?_
  refine O.op (.p rfl) (.toStr Go.Proofs.Tryz.underlying23 Go.Proofs.Tryz.underlying5 Go.Proofs.Tryz.underlying9 rfl (by first | assumption | exact Arr.mono hg (by assumption) | exact Arr.left (by assumption) | exact Arr.left (Arr.mono hg (by assumption)))) ?_
  refine O.op (.p rfl) (.eqlS rfl rfl) ?_
  refine O.slot 38 (v' := .bool true) rfl (congrArg Value.bool (by first | decide | simp)) ?_
  refine O.op (.p rfl) (.mv rfl) ?_
  refine O.op (.g rfl rfl) (.mv rfl) ?_
  refine O.op (.g rfl rfl) (.eql rfl rfl) ?_
  refine O.slot 41 (v' := .bool true) rfl (congrArg Value.bool (by first | decide | simp)) ?_
  refine O.op (.p rfl) (.pickT rfl rfl) ?_
  refine O.op (.p rfl) (.mv rfl) ?_
  refine O.op (.g rfl rfl) (.mv rfl) ?_
  refine O.op (.p rfl) (.pickT rfl rfl) ?_
  refine O.op (.p rfl) (.mv rfl) ?_
  refine O.op (.g rfl rfl) (.mv rfl) ?_
  refine O.callS (.g rfl rfl) rfl FactWire4.ok30 rfl rfl (by repeat (first | exact Sel.here | apply Sel.there)) (rByte_e (z := 0) (rest' := []) (f := true) (bad' := true) ha33' (by decide) rfl) ?_
  rintro v48 _ ⟨v48', rfl, ha48', rfl⟩
  try simp only [List.cons_append, List.nil_append, List.append_nil]
  refine O.op (.g rfl rfl) (.eql rfl rfl) ?_
  refine O.slot 49 (v' := .bool true) rfl (congrArg Value.bool (by first | decide | simp)) ?_
  refine O.op (.p rfl) (.pickT rfl rfl) ?_
  refine O.op (.p rfl) (.mv rfl) ?_
  refine O.op (.g rfl rfl) (.mv rfl) ?_
  refine O.callS (.g rfl rfl) rfl FactWire4.ok21 rfl rfl (by repeat (first | exact Sel.here | apply Sel.there)) rGood_c ?_
  rintro v53 _ ⟨rfl, rfl⟩
  try simp only [List.cons_append, List.nil_append, List.append_nil]
  refine O.slot 53 (v' := .bool false) rfl (congrArg Value.bool (by first | decide | simp)) ?_
  refine O.op (.g rfl rfl) (.not rfl) ?_
  refine O.op (.p rfl) (.pickT rfl rfl) ?_
  refine O.op (.p rfl) (.mv rfl) ?_
  refine O.op (.g rfl rfl) (.mv rfl) ?_
  refine O.callS (.g rfl rfl) rfl FactWire4.ok23 rfl rfl (by repeat (first | exact Sel.here | apply Sel.there)) (rDone_c ha48') ?_
  rintro v58 _ ⟨rfl, rfl⟩
  try simp only [List.cons_append, List.nil_append, List.append_nil]
  refine O.slot 58 (v' := .bool false) rfl (congrArg Value.bool (by first | decide | simp)) ?_
  refine O.op (.g rfl rfl) (.not rfl) ?_
  refine O.op (.p rfl) (.pickT rfl rfl) ?_
  refine O.op (.p rfl) (.as rfl) ?_
  refine O.nil ?_
  refine S.ret Go.Proofs.Tryz.results6 rfl fun w hw => Holds.end_ hR hw ?_
  exact ⟨_, ⟨rfl, rfl⟩, by repeat (first | exact Picks.all | exact Picks.nil | (apply Picks.cons; focus (repeat (first | exact Sel.here | apply Sel.there))) | apply Picks.skip)⟩

end Go.Proofs.YtodkpkmhnpmmgaaGreat
