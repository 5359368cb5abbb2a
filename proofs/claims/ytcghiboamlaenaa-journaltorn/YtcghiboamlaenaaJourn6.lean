import Derived.Test.YtcghiboamlaenaaJourn5
open Go Go.Sp
set_option maxRecDepth 100000
attribute [local irreducible] obj Own OwnP
namespace Go.Proofs.Ytcghiboamlaenaa
theorem FactJourn6.elem25 : elemIs Go.Proofs.Try.prog 25 2 32 [.int .u8 0, .slice none 0 0] := elemIs.mk (by kernel_rfl) rfl
theorem FactJourn6.elem3 : elemIs Go.Proofs.Try.prog 3 1 8 [.int .i64 0] := elemIs.mk (by kernel_rfl) rfl
theorem FactJourn6.elem5 : elemIs Go.Proofs.Try.prog 5 1 1 [.int .u8 0] := elemIs.mk (by kernel_rfl) rfl
theorem FactJourn6.flat3 : Go.Sp.flat1 Go.Proofs.Try.prog 3 = true := by kernel_rfl
theorem FactJourn6.ok11 : callable Go.Proofs.Try.prog 11 = true := by kernel_rfl
theorem FactJourn6.ok12 : callable Go.Proofs.Try.prog 12 = true := by kernel_rfl
theorem FactJourn6.ok13 : callable Go.Proofs.Try.prog 13 = true := by kernel_rfl
theorem FactJourn6.ok14 : callable Go.Proofs.Try.prog 14 = true := by kernel_rfl
theorem FactJourn6.ok15 : callable Go.Proofs.Try.prog 15 = true := by kernel_rfl
theorem FactJourn6.ok6 : callable Go.Proofs.Try.prog 6 = true := by kernel_rfl
theorem FactJourn6.size25 : (Go.Proofs.Try.prog.info? 25).map (·.size) = some 2 := by kernel_rfl
theorem FactJourn6.size3 : (Go.Proofs.Try.prog.info? 3).map (·.size) = some 1 := by kernel_rfl
theorem FactJourn6.size5 : (Go.Proofs.Try.prog.info? 5).map (·.size) = some 1 := by kernel_rfl

/-- those that are right -/
def good (es : List Ent) : List Ent := es.filter fun e => decide (putErr e.1 e.2.1 = 0)
theorem good_ok (es : List Ent) : ∀ e ∈ good es, putErr e.1 e.2.1 = 0 := fun e h => by simpa using (List.mem_filter.1 h).2
theorem good_snoc (es : List Ent) (e : Ent) : good (es ++ [e]) = if putErr e.1 e.2.1 = 0 then good es ++ [e] else good es := by
  unfold good; rw [List.filter_append]; split
  · rename_i h; simp [h]
  · rename_i h; simp [h]
theorem flatE_len : ∀ es : List Ent, (flatE es).length ≤ 24 * es.length + 8 * entSum es
  | [] => by simp [flatE]
  | e :: es => by
    have := flatE_len es
    have h := putBytes_length e.1 e.2.1
    have h2 : entSum (e :: es) = e.2.1.length / 8 + entSum es := by simp [entSum]
    rw [flatE_cons, List.length_append, h2, List.length_cons]; omega
theorem good_len : ∀ es : List Ent, (good es).length ≤ es.length ∧ entSum (good es) ≤ entSum es
  | [] => by simp [good]
  | e :: es => by
    have := good_len es
    have h2 : entSum (e :: es) = e.2.1.length / 8 + entSum es := by simp [entSum]
    by_cases h : putErr e.1 e.2.1 = 0
    · have h1 : good (e :: es) = e :: good es := by simp [good, h]
      have h3 : entSum (e :: good es) = e.2.1.length / 8 + entSum (good es) := by simp [entSum]
      rw [h1, h2, h3, List.length_cons, List.length_cons]; omega
    · have h1 : good (e :: es) = good es := by simp [good, h]
      rw [h1, h2, List.length_cons]; omega
theorem entSum_take (es : List Ent) (i : Nat) : entSum (es.take i) ≤ entSum es := by
  conv => rhs; rw [← List.take_append_drop i es]
  unfold entSum; rw [List.map_append, List.sum_append]; omega
/-- where they end -/
def endsOf (es : List Ent) : List Int := (List.range es.length).map fun j => ((flatE (es.take (j + 1))).length : Int)
theorem endsOf_get (es : List Ent) (n : Nat) (h : n < (endsOf es).length) : (endsOf es)[n] = ((flatE (es.take (n + 1))).length : Int) := by simp [endsOf]
@[simp] theorem endsOf_length (es : List Ent) : (endsOf es).length = es.length := by simp [endsOf]
theorem endsOf_snoc (es : List Ent) (e : Ent) : endsOf (es ++ [e]) = endsOf es ++ [((flatE (es ++ [e])).length : Int)] := by
  unfold endsOf
  rw [List.length_append, List.length_singleton, List.range_succ, List.map_append]
  congr 1
  · refine List.map_congr_left fun j hj => ?_
    rw [List.mem_range] at hj
    rw [List.take_append_of_le_length (by omega)]
  · rw [List.map_singleton, List.take_of_length_le (by simp)]
theorem pick_lt (x n : Int) (h : 0 < n) : 0 ≤ pick x n ∧ pick x n < n := by
  have b1 := Int.tmod_lt_of_pos x h
  have b2 := Int.lt_tmod_of_pos x h
  unfold pick; rw [if_neg (by omega)]; split <;> omega
theorem torn_c {r : Fr} {va : Value} {es : List Ent} {cut : Int} (ha : Arr EntRp r va es) :
    Con Go.Proofs.Try.prog 4 #[va, .int .i64 cut] r [] (Ret fun v η => v = .bool true ∧ η = []) := by
  refine Con.of (n := 131) [va, .int .i64 cut] rfl Go.Proofs.Try.func4 rfl rfl rfl fun g hg R hR => ?_
  have ha := ha.mono hg
  obtain ⟨a1, c1, rfl⟩ := ha.shape
  refine S.seq (S.region rfl ?_)
  refine O.op (.p rfl) (.as rfl) ?_
  refine O.nil ?_
  refine S.seq (S.seq (S.region rfl ?_))
  refine O.call0 (.p rfl) rfl FactJourn6.ok12 rfl rfl (awake_c) ?_
  rintro v19 _ ⟨rfl, rfl⟩
  try simp only [List.cons_append, List.nil_append, List.append_nil]
  refine O.op (.p rfl) (.not rfl) ?_
  refine O.nil ?_
  refine S.condF rfl ?_
  refine S.skip (S.seq (S.seq (S.region rfl ?_)))
  refine O.op (.p rfl) (.mv rfl) ?_
  refine O.call0 (.p rfl) rfl FactJourn6.ok13 rfl rfl (entriesOf_c (by first | assumption | exact Arr.mono hg (by assumption) | exact Arr.left (by assumption) | exact Arr.left (Arr.mono hg (by assumption))) (by omega)) ?_
  rintro v22 _ ⟨z22, rfl, hz22, rfl⟩
  try simp only [List.cons_append, List.nil_append, List.append_nil]
  refine O.op (.p rfl) (.gtr rfl rfl) ?_
  refine O.nil ?_
  first | refine S.condD rfl (fun h23 => ?_) (fun h23 => ?_) | refine S.condB rfl (fun h23 => ?_) (fun h23 => ?_)
  · refine S.seq (S.region rfl ?_)
    refine O.op (.p rfl) (.as rfl) ?_
    refine O.nil ?_
    refine S.ret Go.Proofs.Try.results4 rfl fun w hw => Holds.end_ hR hw ?_
    exact ⟨_, ⟨rfl, rfl⟩, by repeat (first | exact Picks.all | exact Picks.nil | (apply Picks.cons; focus (repeat (first | exact Sel.here | apply Sel.there))) | apply Picks.skip)⟩
  · have hz := hz22 (by omega)
    have hsz : es.length + entSum es ≤ 3000 := by omega
    clear hz hz22
    have hb := fun i => (flatE_len (good (es.take i)))
    have hb2 := fun i => (good_len (es.take i))
    have hb3 := fun i => (entSum_take es i)
    have hb4 : ∀ i, (flatE (good (es.take i))).length ≤ 72000 ∧ (good (es.take i)).length ≤ 3000 := fun i => by
      have := hb i; have := hb2 i; have := hb3 i
      have : (es.take i).length ≤ es.length := by simp; omega
      omega
    clear hb hb2 hb3
    refine S.addNil (T := Rp.i64) (e := 3) ?_
    refine S.addNil (T := Rp.cells 2) (e := 25) ?_
    refine S.addNil (T := Rp.u8) (e := 5) ?_
    refine S.skip (S.seq (S.region rfl ?_))
    refine O.op (.p rfl) (.as rfl) ?_
    refine O.nil ?_
    refine S.seq (S.region rfl ?_)
    refine O.op (.p rfl) (.as rfl) ?_
    refine O.nil ?_
    refine S.seq (S.region rfl ?_)
    refine O.op (.p rfl) (.as rfl) ?_
    refine O.nil ?_
    refine S.seq (S.seq (S.region rfl ?_))
    refine O.op (.p rfl) (.as rfl) ?_
    refine O.nil ?_
    refine S.block ?_
    refine S.loopK4 (ι := Nat) (κ := Option Addr × Nat) (υ := (Option Addr × Nat) × (Option Addr × Nat)) (τ := List (List Value)) (fun i s5 s6 css => i ≤ es.length ∧ Cells EntRp g.h css (good (es.take i))) (fun i s5 s6 css => [(8, .int .i64 (i : Int)), (5, .slice s5.1 (flatE (good (es.take i))).length s5.2), (6, .slice s6.1.1 css.length s6.1.2), (7, .slice s6.2.1 (endsOf (good (es.take i))).length s6.2.2)]) [(0, _), (1, _)] (fun i s5 s6 css => [OwnP Rp.u8 5 (.slice s5.1 (flatE (good (es.take i))).length s5.2) (flatE (good (es.take i))), OwnP (Rp.cells 2) 25 (.slice s6.1.1 css.length s6.1.2) css, OwnP Rp.i64 3 (.slice s6.2.1 (endsOf (good (es.take i))).length s6.2.2) (endsOf (good (es.take i)))]) (fun i s5 s6 css => es.length - i) (0) ((none, 0)) (((none, 0), (none, 0))) ([]) (by exact ⟨Nat.zero_le _, by rw [List.take_zero]; exact Cells.nil⟩) (.cons rfl (.cons rfl (.cons rfl (.cons rfl (.nil))))) (.cons rfl (.cons rfl (.nil))) rfl fun i s5 s6 css hx ih => ?_
    have hm1 := meltRefl (g := g)
    obtain ⟨hx1, hcs⟩ := hx
    have hcl := hcs.len
    have hbi := hb4 i
    refine S.seq (S.seq (S.region rfl ?_))
    refine O.op (.p rfl) (.mv rfl) ?_
    refine O.op (.p rfl) (.mv rfl) ?_
    refine O.op (.p rfl) (.len rfl Go.Proofs.Try.underlying36 rfl) ?_
    refine O.op (.p rfl) (.lss rfl rfl) ?_
    refine O.nil ?_
    first | refine S.condD rfl (fun h27 => ?_) (fun h27 => ?_) | refine S.condB rfl (fun h27 => ?_) (fun h27 => ?_)
    · have hi : i < es.length := by omega
      have h20 : es.take (i + 1) = es.take i ++ [es[i]] := List.take_succ_eq_append_getElem hi
      have hgs := good_snoc (es.take i) es[i]
      rw [← h20] at hgs
      have hbn := hb4 (i + 1)
      refine S.skip (S.seq (S.block (S.seq (S.region rfl ?_))))
      refine O.op (.p rfl) (.mv rfl) ?_
      refine O.op (.p rfl) (.mv rfl) ?_
      refine O.idx' (.p rfl) Go.Proofs.Try.underlying36 FactJourn6.size25 rfl rfl rfl (by first | assumption | exact Arr.mono hg (by assumption) | exact Arr.left (by assumption) | exact Arr.left (Arr.mono hg (by assumption))) (by decide) (by first | omega | (simp; done) | (simp; omega) | decide) (fun p33 cs33 hp33 hr33 => ?_)
      obtain ⟨v33, rfl, ha33⟩ := EntRp.open hr33; obtain ⟨a33, c33, rfl⟩ := ha33.shape
      refine O.op (.p rfl) (.loadAgg Go.Proofs.Try.isAgg25 (by kernel_rfl) rfl hp33) ?_
      refine O.call0 (.p rfl) rfl FactJourn6.ok6 rfl rfl (put_c (by first | assumption | exact Arr.mono hg (by assumption) | exact Arr.left (by assumption) | exact Arr.left (Arr.mono hg (by assumption)))) ?_
      rintro v35 _ ⟨a35, c35, rfl, rfl⟩
      try simp only [List.cons_append, List.nil_append, List.append_nil]
      refine O.op (.p rfl) (.mv rfl) ?_
      refine O.op (.p rfl) (.extract rfl rfl) ?_
      refine O.op (.p rfl) (.extract rfl rfl) ?_
      refine O.op (.p rfl) (.as rfl) ?_
      refine O.op (.p rfl) (.as rfl) ?_
      refine O.nil ?_
      refine S.seq (S.seq (S.region rfl ?_))
      refine O.op (.p rfl) (.mv rfl) ?_
      refine O.op (.p rfl) (.neq rfl rfl) ?_
      refine O.nil ?_
      first | refine S.condD rfl (fun h39 => ?_) (fun h39 => ?_) | refine S.condB rfl (fun h39 => ?_) (fun h39 => ?_)
      · have hne : ¬ putErr es[i].1 es[i].2.1 = 0 := by simpa using h39
        rw [if_neg hne] at hgs
        refine S.exit rfl ?_
        refine S.region rfl ?_
        refine O.op (.p rfl) (.mv rfl) ?_
        refine O.op (.p rfl) (.add rfl rfl (IntWalk.i64_in _ (by omega))) ?_
        refine O.op (.p rfl) (.as rfl) ?_
        refine O.nil ?_
        rw [← hgs]
        refine S.pk ?_ (S.weaken ?_ (ih (i + 1) (s5) (s6) (css) (by exact ⟨by omega, by rw [hgs]; exact hcs⟩) (by omega)))
        · repeat (first | exact Picks.all | exact Picks.nil | (apply Picks.cons; focus (repeat (first | exact Sel.here | apply Sel.there))) | apply Picks.skip)
        repeat (first | exact Sub.nil | refine Sub.cons rfl ?_)
      · have he0 : putErr es[i].1 es[i].2.1 = 0 := by simpa using h39
        rw [if_pos he0] at hgs
        have eo : putOut es[i].1 es[i].2.1 = putBytes es[i].1 es[i].2.1 := by simp [putOut, he0]
        rw [eo]
        have hfl := flatE_snoc (good (es.take i)) es[i]
        rw [← hgs] at hfl
        have hfl2 : (flatE (good (es.take (i + 1)))).length = (flatE (good (es.take i))).length + (putBytes es[i].1 es[i].2.1).length := by rw [hfl, List.length_append]
        have hes := endsOf_snoc (good (es.take i)) es[i]
        rw [← hgs] at hes
        have hpl := putBytes_length es[i].1 es[i].2.1
        refine S.skip (S.seq (S.region rfl ?_))
        refine O.op (.p rfl) (.mv rfl) ?_
        refine O.op (.p rfl) (.mv rfl) ?_
        refine O.opE (.p rfl) (.appendO (T := Rp.u8) Go.Proofs.Try.underlying22 FactJourn6.elem5 (by decide) rfl rfl (by repeat (first | exact Sel.here | apply Sel.there)) (by repeat (first | exact Sel.here | apply Sel.there)) (by first | omega | (simp; done) | (simp; omega) | decide) (by first | omega | (simp; done) | (simp; omega) | decide)) ?_
        rintro v42 _ ⟨a42, c42, rfl, rfl⟩
        refine O.op (.p rfl) (.as rfl) ?_
        refine O.nil ?_
        refine S.seq (S.region rfl ?_)
        refine O.op (.p rfl) (.mv rfl) ?_
        refine O.op (.p rfl) (.mv rfl) ?_
        refine O.op (.p rfl) (.mv rfl) ?_
        refine O.idx' (.p rfl) Go.Proofs.Try.underlying36 FactJourn6.size25 rfl rfl rfl (by first | assumption | exact Arr.mono hg (by assumption) | exact Arr.left (by assumption) | exact Arr.left (Arr.mono hg (by assumption))) (by decide) (by first | omega | (simp; done) | (simp; omega) | decide) (fun p46 cs46 hp46 hr46 => ?_)
        obtain ⟨v46, rfl, ha46⟩ := EntRp.open hr46; obtain ⟨a46, c46, rfl⟩ := ha46.shape
        refine O.op (.p rfl) (.loadAgg Go.Proofs.Try.isAgg25 (by kernel_rfl) rfl hp46) ?_
        refine O.opE (.p rfl) (.litP (T := (Rp.cells 2)) (ys := [_]) Go.Proofs.Try.underlying36 FactJourn6.elem25 (by decide) rfl rfl ⟨⟨rfl, rfl, by first | (simp; done) | (intro v hv; simp [Value.cells] at hv; rcases hv with rfl | rfl <;> rfl)⟩, trivial⟩ (by decide)) ?_
        rintro _ _ ⟨a48, c48, rfl, rfl⟩
        refine O.opE (.p rfl) (.appendO (T := (Rp.cells 2)) Go.Proofs.Try.underlying36 FactJourn6.elem25 (by decide) rfl rfl (by repeat (first | exact Sel.here | apply Sel.there)) (by repeat (first | exact Sel.here | apply Sel.there)) (by first | omega | (simp; done) | (simp; omega) | decide) (by first | omega | (simp; done) | (simp; omega) | decide)) ?_
        rintro _ _ ⟨a49, c49, rfl, rfl⟩
        refine O.op (.p rfl) (.as rfl) ?_
        refine O.nil ?_
        refine S.region rfl ?_
        refine O.op (.p rfl) (.mv rfl) ?_
        refine O.op (.p rfl) (.mv rfl) ?_
        refine O.op (.p rfl) (.len rfl Go.Proofs.Try.underlying22 rfl) ?_
        refine O.opE (.p rfl) (.litP (T := Rp.i64) (ys := [_]) Go.Proofs.Try.underlying33 FactJourn6.elem3 (by decide) rfl rfl ⟨⟨rfl, by first | assumption | (constructor <;> omega)⟩, trivial⟩ (by decide)) ?_
        rintro _ _ ⟨a53, c53, rfl, rfl⟩
        refine O.opE (.p rfl) (.appendO (T := Rp.i64) Go.Proofs.Try.underlying33 FactJourn6.elem3 (by decide) rfl rfl (by repeat (first | exact Sel.here | apply Sel.there)) (by repeat (first | exact Sel.here | apply Sel.there)) (by first | omega | (simp; done) | (simp; omega) | decide) (by first | omega | (simp; done) | (simp; omega) | decide)) ?_
        rintro _ _ ⟨a54, c54, rfl, rfl⟩
        refine O.op (.p rfl) (.as rfl) ?_
        refine O.nil ?_
        refine S.inBlock (S.region rfl ?_)
        refine O.op (.p rfl) (.mv rfl) ?_
        refine O.op (.p rfl) (.add rfl rfl (IntWalk.i64_in _ (by omega))) ?_
        refine O.op (.p rfl) (.as rfl) ?_
        refine O.nil ?_
        rw [← hfl2, ← hfl]
        simp only [List.length_append, List.length_singleton]
        have hcc : (Value.agg #[byteV es[i].1, .slice a46 es[i].2.1.length c46]).cells.toList = [byteV es[i].1, .slice a46 es[i].2.1.length c46] := by simp [Value.cells]
        have hel : (endsOf (good (es.take i))).length + 1 = (endsOf (good (es.take (i + 1)))).length := by rw [hes, List.length_append]; rfl
        have hc2 : css.length + 1 = (css ++ [[byteV es[i].1, .slice a46 es[i].2.1.length c46]]).length := by simp
        rw [← hes, hel, hc2]
        simp only [hcc]
        refine S.pk ?_ (S.weaken ?_ (ih (i + 1) ((a42, c42)) (((a49, c49), (a54, c54))) (css ++ [[byteV es[i].1, .slice a46 es[i].2.1.length c46]]) (by exact ⟨by omega, by rw [hgs]; exact hcs.snoc hr46⟩) (by omega)))
        · repeat (first | exact Picks.all | exact Picks.nil | (apply Picks.cons; focus (repeat (first | exact Sel.here | apply Sel.there))) | apply Picks.skip)
        repeat (first | exact Sub.nil | refine Sub.cons rfl ?_)
    · clear ih
      have hi : i = es.length := by omega
      subst hi
      rw [List.take_length] at hcs ⊢
      rw [List.take_length] at hbi hcl
      have hgood := good_ok es
      generalize good es = right at *
      rw [hcl]
      refine S.frzA (by repeat (first | exact Sel.here | apply Sel.there)) fun g hs hm hall => ?_
      replace hg := Fr.sub_trans hg hs
      replace hR := melted hR hm
      try replace hcs := hcs.mono hs
      replace hm1 := meltTrans hm1 hm
      clear hs hm
      refine S.exit rfl ?_
      refine S.seq (S.region rfl ?_)
      refine O.op (.p rfl) (.mv rfl) ?_
      refine O.call0 (.p rfl) rfl FactJourn6.ok11 rfl rfl (scan_c hall (by omega)) ?_
      rintro v57 _ ⟨a57, c57, rfl, rfl⟩
      try simp only [List.cons_append, List.nil_append, List.append_nil]
      refine O.op (.p rfl) (.mv rfl) ?_
      refine O.op (.p rfl) (.extract rfl rfl) ?_
      refine O.op (.p rfl) (.extract rfl rfl) ?_
      refine O.op (.p rfl) (.extract rfl rfl) ?_
      refine O.op (.p rfl) (.as rfl) ?_
      refine O.op (.p rfl) (.as rfl) ?_
      refine O.op (.p rfl) (.as rfl) ?_
      refine O.nil ?_
      refine S.seq (S.seq ?_)
      simp only [scanM_flat hgood]
      refine S.frzG (T := EntRp) rfl (by repeat (first | exact Sel.here | apply Sel.there)) fun g hs hm hl => ?_
      replace hg := Fr.sub_trans hg hs
      replace hR := melted hR hm
      try replace hcs := hcs.mono hs
      try replace hall := hall.mono hs
      replace hm1 := meltTrans hm1 hm
      clear hs hm
      refine S.frzA (by repeat (first | exact Sel.here | apply Sel.there)) fun g hs hm hri => ?_
      replace hg := Fr.sub_trans hg hs
      replace hR := melted hR hm
      try replace hcs := hcs.mono hs
      try replace hall := hall.mono hs
      try replace hl := hl.mono hs
      replace hm1 := meltTrans hm1 hm
      clear hs hm
      replace hri := hcs.arr (T := EntRp) rfl hri
      refine S.frzA (by repeat (first | exact Sel.here | apply Sel.there)) fun g hs hm hends => ?_
      replace hg := Fr.sub_trans hg hs
      replace hR := melted hR hm
      try replace hcs := hcs.mono hs
      try replace hall := hall.mono hs
      try replace hl := hl.mono hs
      try replace hri := hri.mono hs
      replace hm1 := meltTrans hm1 hm
      clear hs hm
      refine S.region rfl ?_
      refine O.op (.p rfl) (.mv rfl) ?_
      refine O.op (.p rfl) (.mv rfl) ?_
      refine O.call0 (.p rfl) rfl FactJourn6.ok14 rfl rfl (sameEntries_c hl hri) ?_
      rintro v63 _ ⟨rfl, rfl⟩
      try simp only [List.cons_append, List.nil_append, List.append_nil]
      refine O.slot 63 (v' := .bool true) rfl (congrArg Value.bool (by simp)) ?_
      refine O.op (.p rfl) (.not rfl) ?_
      refine O.op (.p rfl) (.mv rfl) ?_
      refine O.op (.g rfl rfl) (.mv rfl) ?_
      refine O.op (.g rfl rfl) (.mv rfl) ?_
      refine O.op (.g rfl rfl) (.len rfl Go.Proofs.Try.underlying22 rfl) ?_
      refine O.op (.g rfl rfl) (.neq rfl rfl) ?_
      refine O.slot 69 (v' := .bool false) rfl (congrArg Value.bool (by simp)) ?_
      refine O.op (.p rfl) (.pickF rfl rfl) ?_
      refine O.op (.p rfl) (.mv rfl) ?_
      refine O.op (.g rfl rfl) (.mv rfl) ?_
      refine O.op (.p rfl) (.pickF rfl rfl) ?_
      refine O.nil ?_
      refine S.condF rfl ?_
      refine S.skip (S.seq (S.region rfl ?_))
      refine O.op (.p rfl) (.mv rfl) ?_
      refine O.op (.p rfl) (.mv rfl) ?_
      refine O.op (.p rfl) (.len rfl Go.Proofs.Try.underlying22 rfl) ?_
      refine O.op (.p rfl) (.add rfl rfl (IntWalk.i64_in _ (by omega))) ?_
      have hpk := pick_lt cut (((flatE right).length : Int) + 1) (by omega)
      obtain ⟨k, hkp⟩ : ∃ k : Nat, pick cut (((flatE right).length : Int) + 1) = k := ⟨(pick cut (((flatE right).length : Int) + 1)).toNat, by omega⟩
      refine O.call0 (.p rfl) rfl FactJourn6.ok15 rfl rfl (Pick_c _ _ (by constructor <;> omega)) ?_
      rintro v78 _ ⟨rfl, rfl⟩
      try simp only [List.cons_append, List.nil_append, List.append_nil]
      rw [hkp]
      refine O.op (.p rfl) (.as rfl) ?_
      refine O.nil ?_
      refine S.seq (S.region rfl ?_)
      refine O.op (.p rfl) (.as rfl) ?_
      refine O.nil ?_
      refine S.seq (S.block ?_)
      have hkl : k ≤ (flatE right).length := by omega
      clear hkp hpk
      have hwl := whole_le right k
      refine S.loopK (ι := Nat) (fun n => n ≤ whole right k) (fun n => [(15, .int .i64 (n : Int))]) [(5, _), (6, _), (7, _), (14, _)] (fun n => []) (fun n => right.length - n) (0) (by exact Nat.zero_le _) (.cons rfl (.nil)) (.cons rfl (.cons rfl (.cons rfl (.cons rfl (.nil))))) rfl fun n hx ih => ?_
      have hm2 := meltRefl (g := g)
      refine S.seq (S.seq (S.region rfl ?_))
      refine O.op (.p rfl) (.mv rfl) ?_
      refine O.op (.p rfl) (.mv rfl) ?_
      refine O.op (.p rfl) (.len rfl Go.Proofs.Try.underlying33 rfl) ?_
      refine O.op (.p rfl) (.lss rfl rfl) ?_
      refine O.op (.p rfl) (.mv rfl) ?_
      first | refine O.caseD 83 rfl (fun h83 => ?_) (fun h83 => ?_) | refine O.caseB 83 rfl (fun h83 => ?_) (fun h83 => ?_)
      · have hnr : n < right.length := by simp at h83; omega
        have hw := whole_iff right n k hnr
        refine O.op (.g rfl rfl) (.mv rfl) ?_
        refine O.op (.g rfl rfl) (.mv rfl) ?_
        refine O.idx' (.g rfl rfl) Go.Proofs.Try.underlying33 FactJourn6.size3 rfl rfl (show _ = (((n) : Nat) : Int) by omega) (by first | assumption | exact Arr.mono hg (by assumption) | exact Arr.left (by assumption) | exact Arr.left (Arr.mono hg (by assumption))) (by decide) (by first | omega | (simp; done) | (simp; omega) | decide) (fun p86 cs86 hp86 hr86 => ?_)
        obtain ⟨rfl, hz86⟩ := hr86
        refine O.op (.g rfl rfl) (.loadAt FactJourn6.flat3 rfl hp86 rfl) ?_
        refine O.op (.g rfl rfl) (.mv rfl) ?_
        refine O.op (.g rfl rfl) (.leq rfl rfl) ?_
        refine O.op (.p rfl) (.pickT rfl rfl) ?_
        refine O.nil ?_
        first | refine S.condD rfl (fun h90 => ?_) (fun h90 => ?_) | refine S.condB rfl (fun h90 => ?_) (fun h90 => ?_)
        · have hw2 := hw.1 (by have := endsOf_get right n (by simpa using hnr); omega)
          refine S.skip (S.block (S.region rfl ?_))
          refine O.op (.p rfl) (.mv rfl) ?_
          refine O.op (.p rfl) (.add rfl rfl (IntWalk.i64_in _ (by omega))) ?_
          refine O.op (.p rfl) (.as rfl) ?_
          refine O.nil ?_
          refine S.inBlock ?_
          refine S.weaken ?_ (ih (n + 1) (by omega) (by omega))
          repeat (first | exact Sub.nil | refine Sub.cons rfl ?_)
        · have hn : n = whole right k := by have := endsOf_get right n (by simpa using hnr); omega
          clear ih
          refine S.exit rfl ?_
          refine S.seq (S.region rfl ?_)
          refine O.op (.p rfl) (.mv rfl) ?_
          refine O.op (.p rfl) (.mv rfl) ?_
          refine O.sliceTo (b := k) (.p rfl) Go.Proofs.Try.underlying22 FactJourn6.size5 rfl rfl (by assumption) (by first | omega | (simp; done) | (simp; omega) | decide) (by first | omega | (simp; done) | (simp; omega) | decide) (fun u96 ha96 => ?_)
          obtain ⟨a96, c96, rfl⟩ := ha96.shape
          refine O.call0 (.p rfl) rfl FactJourn6.ok11 rfl rfl (scan_c ha96 (by rw [List.length_take]; omega)) ?_
          rintro v97 _ ⟨a97, c97, rfl, rfl⟩
          try simp only [List.cons_append, List.nil_append, List.append_nil]
          refine O.op (.p rfl) (.mv rfl) ?_
          refine O.op (.p rfl) (.extract rfl rfl) ?_
          refine O.op (.p rfl) (.extract rfl rfl) ?_
          refine O.op (.p rfl) (.extract rfl rfl) ?_
          refine O.op (.p rfl) (.as rfl) ?_
          refine O.op (.p rfl) (.as rfl) ?_
          refine O.op (.p rfl) (.as rfl) ?_
          refine O.nil ?_
          refine S.seq ?_
          simp only [scanM_torn k hkl hgood, ← hn]
          refine S.frzG (T := EntRp) rfl (by repeat (first | exact Sel.here | apply Sel.there)) fun g hs hm hsc => ?_
          replace hg := Fr.sub_trans hg hs
          replace hR := melted hR hm
          try replace hcs := hcs.mono hs
          try replace hall := hall.mono hs
          try replace hl := hl.mono hs
          try replace hri := hri.mono hs
          try replace hends := hends.mono hs
          try replace hp86 := hp86.mono hs
          replace hm1 := meltTrans hm1 hm
          replace hm2 := meltTrans hm2 hm
          clear hs hm
          refine S.region rfl ?_
          refine O.op (.p rfl) (.mv rfl) ?_
          refine O.op (.p rfl) (.mv rfl) ?_
          refine O.op (.p rfl) (.mv rfl) ?_
          refine O.sliceTo (b := n) (.p rfl) Go.Proofs.Try.underlying36 FactJourn6.size25 rfl rfl (by assumption) (by first | omega | (simp; done) | (simp; omega) | decide) (by first | omega | (simp; done) | (simp; omega) | decide) (fun u104 ha104 => ?_)
          obtain ⟨a104, c104, rfl⟩ := ha104.shape
          refine O.call0 (.p rfl) rfl FactJourn6.ok14 rfl rfl (sameEntries_c hsc ha104) ?_
          rintro v105 _ ⟨rfl, rfl⟩
          try simp only [List.cons_append, List.nil_append, List.append_nil]
          refine O.slot 105 (v' := .bool true) rfl (congrArg Value.bool (by simp)) ?_
          refine O.op (.p rfl) (.mv rfl) ?_
          refine O.op (.g rfl rfl) (.mv rfl) ?_
          refine O.op (.g rfl rfl) (.not rfl) ?_
          refine O.op (.p rfl) (.pickT rfl rfl) ?_
          refine O.op (.p rfl) (.mv rfl) ?_
          refine O.op (.g rfl rfl) (.mv rfl) ?_
          refine O.op (.g rfl rfl) (.eql rfl rfl) ?_
          refine O.op (.g rfl rfl) (.mv rfl) ?_
          first | refine O.caseD 113 rfl (fun h113 => ?_) (fun h113 => ?_) | refine O.caseB 113 rfl (fun h113 => ?_) (fun h113 => ?_)
          · have h0 : n = 0 := by omega
            subst h0
            refine O.op (.g rfl rfl) (.mv rfl) ?_
            refine O.op (.g rfl rfl) (.eql rfl rfl) ?_
            refine O.slot 115 (v' := .bool true) rfl (congrArg Value.bool (by simp [flatE])) ?_
            refine O.op (.g rfl rfl) (.pickT rfl rfl) ?_
            refine O.op (.g rfl rfl) (.mv rfl) ?_
            refine O.opN rfl rfl rfl ?_
            refine O.opN rfl rfl rfl ?_
            refine O.opN rfl rfl rfl ?_
            refine O.opN rfl rfl rfl ?_
            refine O.opN rfl rfl rfl ?_
            refine O.opN rfl rfl rfl ?_
            refine O.opN rfl rfl rfl ?_
            refine O.opN rfl rfl rfl ?_
            refine O.opN rfl rfl rfl ?_
            refine O.opN rfl rfl rfl ?_
            refine O.opN rfl rfl rfl ?_
            refine O.op (.g rfl rfl) (.pickT rfl rfl) ?_
            refine O.op (.p rfl) (.pickT rfl rfl) ?_
            refine O.op (.p rfl) (.as rfl) ?_
            refine O.nil ?_
            refine S.ret Go.Proofs.Try.results4 rfl fun w hw => Holds.end_ hR hw ?_
            exact ⟨_, ⟨rfl, rfl⟩, by repeat (first | exact Picks.all | exact Picks.nil | (apply Picks.cons; focus (repeat (first | exact Sel.here | apply Sel.there))) | apply Picks.skip)⟩
          · have h0 : 0 < n := by omega
            have h1 : n - 1 + 1 = n := by omega
            refine O.opN rfl rfl rfl ?_
            refine O.opN rfl rfl rfl ?_
            refine O.op (.g rfl rfl) (.pickF rfl rfl) ?_
            refine O.op (.g rfl rfl) (.mv rfl) ?_
            refine O.op (.g rfl rfl) (.mv rfl) ?_
            refine O.op (.g rfl rfl) (.gtr rfl rfl) ?_
            refine O.slot 119 (v' := .bool true) rfl (congrArg Value.bool (by simp; omega)) ?_
            refine O.op (.g rfl rfl) (.mv rfl) ?_
            refine O.op (.g rfl rfl) (.mv rfl) ?_
            refine O.op (.g rfl rfl) (.mv rfl) ?_
            refine O.op (.g rfl rfl) (.mv rfl) ?_
            refine O.op (.g rfl rfl) (.sub rfl rfl (IntWalk.i64_in _ (by omega))) ?_
            refine O.idx' (.g rfl rfl) Go.Proofs.Try.underlying33 FactJourn6.size3 rfl rfl (show _ = (((n - 1) : Nat) : Int) by omega) (by first | assumption | exact Arr.mono hg (by assumption) | exact Arr.left (by assumption) | exact Arr.left (Arr.mono hg (by assumption))) (by decide) (by first | omega | (simp; done) | (simp; omega) | decide) (fun p125 cs125 hp125 hr125 => ?_)
            obtain ⟨rfl, hz125⟩ := hr125
            refine O.op (.g rfl rfl) (.loadAt FactJourn6.flat3 rfl hp125 rfl) ?_
            refine O.op (.g rfl rfl) (.eql rfl rfl) ?_
            refine O.slot 127 (v' := .bool true) rfl (congrArg Value.bool (by simp [endsOf, h1])) ?_
            refine O.op (.g rfl rfl) (.pickT rfl rfl) ?_
            refine O.op (.g rfl rfl) (.pickF rfl rfl) ?_
            refine O.op (.p rfl) (.pickT rfl rfl) ?_
            refine O.op (.p rfl) (.as rfl) ?_
            refine O.nil ?_
            refine S.ret Go.Proofs.Try.results4 rfl fun w hw => Holds.end_ hR hw ?_
            exact ⟨_, ⟨rfl, rfl⟩, by repeat (first | exact Picks.all | exact Picks.nil | (apply Picks.cons; focus (repeat (first | exact Sel.here | apply Sel.there))) | apply Picks.skip)⟩
      · have hn : n = whole right k := by simp at h83; omega
        clear ih
        refine O.opN rfl rfl rfl ?_
        refine O.opN rfl rfl rfl ?_
        refine O.opN rfl rfl rfl ?_
        refine O.opN rfl rfl rfl ?_
        refine O.opN rfl rfl rfl ?_
        refine O.opN rfl rfl rfl ?_
        refine O.op (.p rfl) (.pickF rfl rfl) ?_
        refine O.nil ?_
        refine S.condF rfl ?_
        refine S.exit rfl ?_
        refine S.seq (S.region rfl ?_)
        refine O.op (.p rfl) (.mv rfl) ?_
        refine O.op (.p rfl) (.mv rfl) ?_
        refine O.sliceTo (b := k) (.p rfl) Go.Proofs.Try.underlying22 FactJourn6.size5 rfl rfl (by assumption) (by first | omega | (simp; done) | (simp; omega) | decide) (by first | omega | (simp; done) | (simp; omega) | decide) (fun u96 ha96 => ?_)
        obtain ⟨a96, c96, rfl⟩ := ha96.shape
        refine O.call0 (.p rfl) rfl FactJourn6.ok11 rfl rfl (scan_c ha96 (by rw [List.length_take]; omega)) ?_
        rintro v97 _ ⟨a97, c97, rfl, rfl⟩
        try simp only [List.cons_append, List.nil_append, List.append_nil]
        refine O.op (.p rfl) (.mv rfl) ?_
        refine O.op (.p rfl) (.extract rfl rfl) ?_
        refine O.op (.p rfl) (.extract rfl rfl) ?_
        refine O.op (.p rfl) (.extract rfl rfl) ?_
        refine O.op (.p rfl) (.as rfl) ?_
        refine O.op (.p rfl) (.as rfl) ?_
        refine O.op (.p rfl) (.as rfl) ?_
        refine O.nil ?_
        refine S.seq ?_
        simp only [scanM_torn k hkl hgood, ← hn]
        refine S.frzG (T := EntRp) rfl (by repeat (first | exact Sel.here | apply Sel.there)) fun g hs hm hsc => ?_
        replace hg := Fr.sub_trans hg hs
        replace hR := melted hR hm
        try replace hcs := hcs.mono hs
        try replace hall := hall.mono hs
        try replace hl := hl.mono hs
        try replace hri := hri.mono hs
        try replace hends := hends.mono hs
        replace hm1 := meltTrans hm1 hm
        replace hm2 := meltTrans hm2 hm
        clear hs hm
        refine S.region rfl ?_
        refine O.op (.p rfl) (.mv rfl) ?_
        refine O.op (.p rfl) (.mv rfl) ?_
        refine O.op (.p rfl) (.mv rfl) ?_
        refine O.sliceTo (b := n) (.p rfl) Go.Proofs.Try.underlying36 FactJourn6.size25 rfl rfl (by assumption) (by first | omega | (simp; done) | (simp; omega) | decide) (by first | omega | (simp; done) | (simp; omega) | decide) (fun u104 ha104 => ?_)
        obtain ⟨a104, c104, rfl⟩ := ha104.shape
        refine O.call0 (.p rfl) rfl FactJourn6.ok14 rfl rfl (sameEntries_c hsc ha104) ?_
        rintro v105 _ ⟨rfl, rfl⟩
        try simp only [List.cons_append, List.nil_append, List.append_nil]
        refine O.slot 105 (v' := .bool true) rfl (congrArg Value.bool (by simp)) ?_
        refine O.op (.p rfl) (.mv rfl) ?_
        refine O.op (.g rfl rfl) (.mv rfl) ?_
        refine O.op (.g rfl rfl) (.not rfl) ?_
        refine O.op (.p rfl) (.pickT rfl rfl) ?_
        refine O.op (.p rfl) (.mv rfl) ?_
        refine O.op (.g rfl rfl) (.mv rfl) ?_
        refine O.op (.g rfl rfl) (.eql rfl rfl) ?_
        refine O.op (.g rfl rfl) (.mv rfl) ?_
        first | refine O.caseD 113 rfl (fun h113 => ?_) (fun h113 => ?_) | refine O.caseB 113 rfl (fun h113 => ?_) (fun h113 => ?_)
        · have h0 : n = 0 := by omega
          subst h0
          refine O.op (.g rfl rfl) (.mv rfl) ?_
          refine O.op (.g rfl rfl) (.eql rfl rfl) ?_
          refine O.slot 115 (v' := .bool true) rfl (congrArg Value.bool (by simp [flatE])) ?_
          refine O.op (.g rfl rfl) (.pickT rfl rfl) ?_
          refine O.op (.g rfl rfl) (.mv rfl) ?_
          refine O.opN rfl rfl rfl ?_
          refine O.opN rfl rfl rfl ?_
          refine O.opN rfl rfl rfl ?_
          refine O.opN rfl rfl rfl ?_
          refine O.opN rfl rfl rfl ?_
          refine O.opN rfl rfl rfl ?_
          refine O.opN rfl rfl rfl ?_
          refine O.opN rfl rfl rfl ?_
          refine O.opN rfl rfl rfl ?_
          refine O.opN rfl rfl rfl ?_
          refine O.opN rfl rfl rfl ?_
          refine O.op (.g rfl rfl) (.pickT rfl rfl) ?_
          refine O.op (.p rfl) (.pickT rfl rfl) ?_
          refine O.op (.p rfl) (.as rfl) ?_
          refine O.nil ?_
          refine S.ret Go.Proofs.Try.results4 rfl fun w hw => Holds.end_ hR hw ?_
          exact ⟨_, ⟨rfl, rfl⟩, by repeat (first | exact Picks.all | exact Picks.nil | (apply Picks.cons; focus (repeat (first | exact Sel.here | apply Sel.there))) | apply Picks.skip)⟩
        · have h0 : 0 < n := by omega
          have h1 : n - 1 + 1 = n := by omega
          refine O.opN rfl rfl rfl ?_
          refine O.opN rfl rfl rfl ?_
          refine O.op (.g rfl rfl) (.pickF rfl rfl) ?_
          refine O.op (.g rfl rfl) (.mv rfl) ?_
          refine O.op (.g rfl rfl) (.mv rfl) ?_
          refine O.op (.g rfl rfl) (.gtr rfl rfl) ?_
          refine O.slot 119 (v' := .bool true) rfl (congrArg Value.bool (by simp; omega)) ?_
          refine O.op (.g rfl rfl) (.mv rfl) ?_
          refine O.op (.g rfl rfl) (.mv rfl) ?_
          refine O.op (.g rfl rfl) (.mv rfl) ?_
          refine O.op (.g rfl rfl) (.mv rfl) ?_
          refine O.op (.g rfl rfl) (.sub rfl rfl (IntWalk.i64_in _ (by omega))) ?_
          refine O.idx' (.g rfl rfl) Go.Proofs.Try.underlying33 FactJourn6.size3 rfl rfl (show _ = (((n - 1) : Nat) : Int) by omega) (by first | assumption | exact Arr.mono hg (by assumption) | exact Arr.left (by assumption) | exact Arr.left (Arr.mono hg (by assumption))) (by decide) (by first | omega | (simp; done) | (simp; omega) | decide) (fun p125 cs125 hp125 hr125 => ?_)
          obtain ⟨rfl, hz125⟩ := hr125
          refine O.op (.g rfl rfl) (.loadAt FactJourn6.flat3 rfl hp125 rfl) ?_
          refine O.op (.g rfl rfl) (.eql rfl rfl) ?_
          refine O.slot 127 (v' := .bool true) rfl (congrArg Value.bool (by simp [endsOf, h1])) ?_
          refine O.op (.g rfl rfl) (.pickT rfl rfl) ?_
          refine O.op (.g rfl rfl) (.pickF rfl rfl) ?_
          refine O.op (.p rfl) (.pickT rfl rfl) ?_
          refine O.op (.p rfl) (.as rfl) ?_
          refine O.nil ?_
          refine S.ret Go.Proofs.Try.results4 rfl fun w hw => Holds.end_ hR hw ?_
          exact ⟨_, ⟨rfl, rfl⟩, by repeat (first | exact Picks.all | exact Picks.nil | (apply Picks.cons; focus (repeat (first | exact Sel.here | apply Sel.there))) | apply Picks.skip)⟩

end Go.Proofs.Ytcghiboamlaenaa
