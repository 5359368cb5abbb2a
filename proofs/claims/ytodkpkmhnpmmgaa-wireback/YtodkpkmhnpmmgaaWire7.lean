import Derived.Test.YtodkpkmhnpmmgaaWire6
import Derived.Test.YtodkpkmhnpmmgaaSpOpen
import Derived.Test.YtodkpkmhnpmmgaaSpOwn3
open Go Go.Sp
set_option maxRecDepth 100000
attribute [local irreducible] obj Own OwnP
namespace Go.Proofs.Ytodkpkmhnpmmgaa
theorem flat_row (rows : List (List UInt8)) (i : Nat) (h : i < rows.length) : (rows.take (i + 1)).flatten.length = (rows.take i).flatten.length + rows[i].length := by
  rw [List.take_succ_eq_append_getElem h, List.flatten_append, List.flatten_singleton, List.length_append]
theorem allOf_len (rows : List (List UInt8)) (nums : List Int) : (allOf rows nums).length = 8 * rows.length + rows.flatten.length + 8 * nums.length := by
  unfold allOf
  rw [List.length_append]
  have h1 : (rows.map bytesOf).flatten.length = 8 * rows.length + rows.flatten.length := by
    induction rows with
    | nil => rfl
    | cons x xs ih => simp only [List.map_cons, List.flatten_cons, List.length_append, bytesOf_length, ih, List.length_cons]; omega
  have h2 : (nums.map be).flatten.length = 8 * nums.length := by
    induction nums with
    | nil => rfl
    | cons x xs ih => simp only [List.map_cons, List.flatten_cons, List.length_append, be_length, ih, List.length_cons]; omega
  omega
theorem allOf_parts (rows : List (List UInt8)) (nums : List Int) : (rows.map bytesOf ++ nums.map be).flatten = allOf rows nums := by simp [allOf]
theorem map_snoc {α β : Type} (f : α → β) (l : List α) (i : Nat) (h : i < l.length) : (l.take i).map f ++ [f l[i]] = (l.take (i + 1)).map f := by
  rw [List.take_succ_eq_append_getElem h, List.map_append]; rfl
theorem pick_bd (x n : Int) (h : 0 < n) : 0 ≤ pick x n ∧ pick x n < n := by
  have b1 := Int.tmod_lt_of_pos x h
  have b2 := Int.lt_tmod_of_pos x h
  unfold pick; split
  · omega
  · split <;> omega
theorem wJoin_e {r : Fr} {va : Value} {xss : List (List UInt8)} {ys : List UInt8} (ha : Arr (Rp.slice Rp.u8) r va xss) (h : xss.flatten = ys) (hl : ys.length ≤ 140737488355328) :
    Con Go.Proofs.Try.prog 9 #[va] r [] (Ret fun v η => ∃ a c, v = .slice a ys.length c ∧ η = [OwnP Rp.u8 5 v ys]) := by
  subst h; exact wJoin_c ha hl
theorem WireBack_c {r : Fr} {vr vn : Value} {rows : List (List UInt8)} {nums : List Int} {cut : Int} (hr : Arr (Rp.slice Rp.u8) r vr rows) (hn : Arr Rp.i64 r vn nums) (hq : Within (Within Anyv) rows) (hnl : nums.length ≤ 140737488351232)
    : Con Go.Proofs.Try.prog 3 #[vr, vn, .int .i64 cut] r [] (Ret fun v η => v = .bool true ∧ η = []) := by
  refine Con.of (n := 109) [vr, vn, .int .i64 cut] rfl Go.Proofs.Try.func3 rfl rfl rfl fun g hg R hR => ?_
  have hrl := hq.1
  have hq : ∀ x ∈ rows, x.length ≤ 140737488351232 := fun x hx => (hq.2 x hx).1
  have hq' : ∀ x ∈ rows, x.length ≤ 140737488355328 := fun x hx => by have := hq x hx; omega
  have hr := hr.mono hg
  have hn := hn.mono hg
  obtain ⟨a2, c2, rfl⟩ := hr.shape
  obtain ⟨a3, c3, rfl⟩ := hn.shape
  refine S.seq (S.region rfl ?_)
  refine O.op (.p rfl) (.as rfl) ?_
  refine O.nil ?_
  refine S.seq (S.seq (S.region rfl ?_))
  refine O.call0 (.p rfl) rfl Fact.ok6 rfl rfl (awake_c) ?_
  rintro v13 _ ⟨rfl, rfl⟩
  try simp only [List.cons_append, List.nil_append, List.append_nil]
  refine O.slot 13 (v' := .bool true) rfl (congrArg Value.bool (by first | decide | simp)) ?_
  refine O.op (.p rfl) (.not rfl) ?_
  refine O.nil ?_
  refine S.condF rfl ?_
  refine S.skip (S.seq (S.region rfl ?_))
  refine O.op (.p rfl) (.mv rfl) ?_
  refine O.op (.p rfl) (.len rfl Go.Proofs.Try.underlying22 rfl) ?_
  refine O.op (.p rfl) (.mv rfl) ?_
  refine O.op (.p rfl) (.len rfl Go.Proofs.Try.underlying23 rfl) ?_
  refine O.op (.p rfl) (.add rfl rfl (IntWalk.i64_in _ (by omega))) ?_
  refine O.op (.p rfl) (.as rfl) ?_
  refine O.nil ?_
  refine S.seq (S.seq (S.region rfl ?_))
  refine O.op (.p rfl) (.as rfl) ?_
  refine O.nil ?_
  refine S.block ?_
  refine S.loopK2 (ι := Nat) (κ := Nat) (fun i c => i ≤ rows.length ∧ c = rows.length + nums.length + (rows.take i).flatten.length ∧ c ≤ 600000000000000) (fun i c => [(8, .int .i64 (i : Int)), (7, .int .i64 (c : Int))]) [(0, _), (1, _), (2, _)] (fun i c => []) (fun i c => rows.length - i) (0) (rows.length + nums.length) (by exact ⟨by simp, by simp, by omega⟩) (.cons rfl (.cons rfl (.nil))) (.cons rfl (.cons rfl (.cons rfl (.nil)))) rfl fun i c hx ih => ?_
  have hm1 := meltRefl (g := g)
  obtain ⟨hx1, hc, hc2⟩ := hx
  refine S.seq (S.seq (S.region rfl ?_))
  refine O.op (.p rfl) (.mv rfl) ?_
  refine O.op (.p rfl) (.mv rfl) ?_
  refine O.op (.p rfl) (.len rfl Go.Proofs.Try.underlying22 rfl) ?_
  refine O.op (.p rfl) (.lss rfl rfl) ?_
  refine O.op (.p rfl) (.mv rfl) ?_
  first | refine O.caseD 24 rfl (fun h24 => ?_) (fun h24 => ?_) | refine O.caseB 24 rfl (fun h24 => ?_) (fun h24 => ?_)
  · refine O.op (.g rfl rfl) (.mv rfl) ?_
    refine O.op (.g rfl rfl) (.leq rfl rfl) ?_
    refine O.op (.p rfl) (.pickT rfl rfl) ?_
    refine O.nil ?_
    first | refine S.condD rfl (fun h27 => ?_) (fun h27 => ?_) | refine S.condB rfl (fun h27 => ?_) (fun h27 => ?_)
    · have hi : i < rows.length := by omega
      have hrow := hq rows[i] (List.getElem_mem hi)
      have e1 := flat_row rows i hi
      refine S.skip (S.seq (S.block (S.region rfl ?_)))
      refine O.op (.p rfl) (.mv rfl) ?_
      refine O.op (.p rfl) (.mv rfl) ?_
      refine O.op (.p rfl) (.mv rfl) ?_
      refine O.idx' (.p rfl) Go.Proofs.Try.underlying22 Fact.size25 rfl rfl rfl (by first | assumption | exact Arr.mono hg (by assumption) | exact Arr.left (by assumption) | exact Arr.left (Arr.mono hg (by assumption))) (by decide) (by first | omega | (simp; done) | (simp; omega) | decide) (fun p33 cs33 hp33 hr33 => ?_)
      obtain ⟨v33, rfl, ha33⟩ := hr33
      obtain ⟨a33, c33, rfl⟩ := ha33.shape
      refine O.op (.p rfl) (.loadAt Fact.flat25 rfl hp33 rfl) ?_
      refine O.op (.p rfl) (.len rfl Go.Proofs.Try.underlying25 rfl) ?_
      refine O.op (.p rfl) (.add rfl rfl (IntWalk.i64_in _ (by omega))) ?_
      refine O.op (.p rfl) (.as rfl) ?_
      refine O.nil ?_
      refine S.inBlock (S.region rfl ?_)
      refine O.op (.p rfl) (.mv rfl) ?_
      refine O.op (.p rfl) (.add rfl rfl (IntWalk.i64_in _ (by omega))) ?_
      refine O.op (.p rfl) (.as rfl) ?_
      refine O.nil ?_
      refine S.weaken ?_ (ih (i + 1) (c + rows[i].length) (by omega) (by omega))
      repeat (first | exact Sub.nil | refine Sub.cons rfl ?_)
    · refine S.exit rfl ?_
      refine S.seq (S.seq (S.region rfl ?_))
      refine O.op (.p rfl) (.mv rfl) ?_
      refine O.op (.p rfl) (.gtr rfl rfl) ?_
      refine O.slot 38 (v' := .bool true) rfl (congrArg Value.bool (by simp; omega)) ?_
      refine O.op (.p rfl) (.mv rfl) ?_
      refine O.opN rfl rfl rfl ?_
      refine O.opN rfl rfl rfl ?_
      refine O.opN rfl rfl rfl ?_
      refine O.op (.p rfl) (.pickT rfl rfl) ?_
      refine O.op (.p rfl) (.mv rfl) ?_
      refine O.opN rfl rfl rfl ?_
      refine O.opN rfl rfl rfl ?_
      refine O.opN rfl rfl rfl ?_
      refine O.op (.p rfl) (.pickT rfl rfl) ?_
      refine O.nil ?_
      refine S.condT rfl ?_
      refine S.seq (S.region rfl ?_)
      refine O.op (.p rfl) (.as rfl) ?_
      refine O.nil ?_
      refine S.ret Go.Proofs.Try.results3 rfl fun w hw => hR _ _ w ?_ hw
      exact ⟨rfl, rfl⟩
  · have hi : i = rows.length := by omega
    subst hi
    rw [List.take_length] at hc
    refine O.opN rfl rfl rfl ?_
    refine O.opN rfl rfl rfl ?_
    refine O.op (.p rfl) (.pickF rfl rfl) ?_
    refine O.nil ?_
    refine S.condF rfl ?_
    refine S.exit rfl ?_
    refine S.seq (S.seq (S.region rfl ?_))
    refine O.op (.p rfl) (.mv rfl) ?_
    refine O.op (.p rfl) (.gtr rfl rfl) ?_
    refine O.op (.p rfl) (.mv rfl) ?_
    first | refine O.caseD 39 rfl (fun h39 => ?_) (fun h39 => ?_) | refine O.caseB 39 rfl (fun h39 => ?_) (fun h39 => ?_)
    · refine O.opN rfl rfl rfl ?_
      refine O.opN rfl rfl rfl ?_
      refine O.opN rfl rfl rfl ?_
      refine O.op (.p rfl) (.pickT rfl rfl) ?_
      refine O.op (.p rfl) (.mv rfl) ?_
      refine O.opN rfl rfl rfl ?_
      refine O.opN rfl rfl rfl ?_
      refine O.opN rfl rfl rfl ?_
      refine O.op (.p rfl) (.pickT rfl rfl) ?_
      refine O.nil ?_
      refine S.condT rfl ?_
      refine S.seq (S.region rfl ?_)
      refine O.op (.p rfl) (.as rfl) ?_
      refine O.nil ?_
      refine S.ret Go.Proofs.Try.results3 rfl fun w hw => hR _ _ w ?_ hw
      exact ⟨rfl, rfl⟩
    · refine O.op (.g rfl rfl) (.mv rfl) ?_
      refine O.op (.g rfl rfl) (.len rfl Go.Proofs.Try.underlying22 rfl) ?_
      refine O.op (.g rfl rfl) (.gtr rfl rfl) ?_
      refine O.op (.p rfl) (.pickF rfl rfl) ?_
      refine O.op (.p rfl) (.mv rfl) ?_
      first | refine O.caseD 44 rfl (fun h44 => ?_) (fun h44 => ?_) | refine O.caseB 44 rfl (fun h44 => ?_) (fun h44 => ?_)
      · refine O.opN rfl rfl rfl ?_
        refine O.opN rfl rfl rfl ?_
        refine O.opN rfl rfl rfl ?_
        refine O.op (.p rfl) (.pickT rfl rfl) ?_
        refine O.nil ?_
        refine S.condT rfl ?_
        refine S.seq (S.region rfl ?_)
        refine O.op (.p rfl) (.as rfl) ?_
        refine O.nil ?_
        refine S.ret Go.Proofs.Try.results3 rfl fun w hw => hR _ _ w ?_ hw
        exact ⟨rfl, rfl⟩
      · refine O.op (.g rfl rfl) (.mv rfl) ?_
        refine O.op (.g rfl rfl) (.len rfl Go.Proofs.Try.underlying23 rfl) ?_
        refine O.op (.g rfl rfl) (.gtr rfl rfl) ?_
        refine O.op (.p rfl) (.pickF rfl rfl) ?_
        refine O.nil ?_
        first | refine S.condD rfl (fun h48 => ?_) (fun h48 => ?_) | refine S.condB rfl (fun h48 => ?_) (fun h48 => ?_)
        · refine S.seq (S.region rfl ?_)
          refine O.op (.p rfl) (.as rfl) ?_
          refine O.nil ?_
          refine S.ret Go.Proofs.Try.results3 rfl fun w hw => hR _ _ w ?_ hw
          exact ⟨rfl, rfl⟩
        · refine S.each0 (OwnP Rp.u8 5) ?_
          refine S.addNil (T := Rp.val) (e := 25) ?_
          refine S.skip (S.seq (S.region rfl ?_))
          refine O.op (.p rfl) (.as rfl) ?_
          refine O.nil ?_
          refine S.seq (S.seq (S.region rfl ?_))
          refine O.op (.p rfl) (.as rfl) ?_
          refine O.nil ?_
          refine S.block ?_
          refine S.loopK4 (ι := Nat) (κ := Option Addr) (υ := Nat) (τ := List Value) (fun i a9 c9 vs => i ≤ rows.length ∧ vs.length = i) (fun i a9 c9 vs => [(10, .int .i64 (i : Int)), (9, .slice a9 i c9)]) [(0, _), (1, _), (2, _)] (fun i a9 c9 vs => [OwnP Rp.val 25 (.slice a9 i c9) vs, RowsP Rp.u8 5 vs ((rows.take i).map bytesOf)]) (fun i a9 c9 vs => rows.length - i) (0) (none) (0) ([]) (by exact ⟨by simp, rfl⟩) (.cons rfl (.cons rfl (.nil))) (.cons rfl (.cons rfl (.cons rfl (.nil)))) rfl fun i a9 c9 vs hx ih => ?_
          have hm2 := meltRefl (g := g)
          obtain ⟨hx1, hvs⟩ := hx
          refine S.seq (S.seq (S.region rfl ?_))
          refine O.op (.p rfl) (.mv rfl) ?_
          refine O.op (.p rfl) (.mv rfl) ?_
          refine O.op (.p rfl) (.len rfl Go.Proofs.Try.underlying22 rfl) ?_
          refine O.op (.p rfl) (.lss rfl rfl) ?_
          refine O.nil ?_
          first | refine S.condD rfl (fun h52 => ?_) (fun h52 => ?_) | refine S.condB rfl (fun h52 => ?_) (fun h52 => ?_)
          · have hi : i < rows.length := by omega
            have hrow : rows[i].length ≤ 20000 := by have e1 := flat_row rows i hi; have e2 := flat_le rows (i + 1); omega
            refine S.skip (S.seq (S.block (S.region rfl ?_)))
            refine O.op (.p rfl) (.mv rfl) ?_
            refine O.op (.p rfl) (.mv rfl) ?_
            refine O.op (.p rfl) (.mv rfl) ?_
            refine O.idx' (.p rfl) Go.Proofs.Try.underlying22 Fact.size25 rfl rfl rfl (by first | assumption | exact Arr.mono hg (by assumption) | exact Arr.left (by assumption) | exact Arr.left (Arr.mono hg (by assumption))) (by decide) (by first | omega | (simp; done) | (simp; omega) | decide) (fun p58 cs58 hp58 hr58 => ?_)
            obtain ⟨v58, rfl, ha58⟩ := hr58
            obtain ⟨a58, c58, rfl⟩ := ha58.shape
            refine O.op (.p rfl) (.loadAt Fact.flat25 rfl hp58 rfl) ?_
            refine O.call0 (.p rfl) rfl Fact.ok7 rfl rfl (wBytes_c (by first | assumption | exact Arr.mono hg (by assumption) | exact Arr.left (by assumption) | exact Arr.left (Arr.mono hg (by assumption))) (by first | omega | (simp; done) | (simp; omega) | decide)) ?_
            rintro v60 _ ⟨a60, c60, rfl, rfl⟩
            try simp only [List.cons_append, List.nil_append, List.append_nil]
            refine O.opE (.p rfl) (.litP (T := Rp.val) (ys := [_]) Go.Proofs.Try.underlying22 Fact.elem25 (by decide) rfl rfl ⟨⟨rfl, rfl⟩, trivial⟩ (by decide)) ?_
            rintro _ _ ⟨a61, c61, rfl, rfl⟩
            refine O.opE (.p rfl) (.appendO (T := Rp.val) Go.Proofs.Try.underlying22 Fact.elem25 (by decide) rfl rfl (by repeat (first | exact Sel.here | apply Sel.there)) (by repeat (first | exact Sel.here | apply Sel.there)) (by first | omega | (simp; done) | (simp; omega) | decide) (by first | omega | (simp; done) | (simp; omega) | decide)) ?_
            rintro _ _ ⟨a62, c62, rfl, rfl⟩
            refine O.each (by repeat (first | exact Sel.here | apply Sel.there)) (by repeat (first | exact Sel.here | apply Sel.there)) ?_
            refine O.op (.p rfl) (.as rfl) ?_
            refine O.nil ?_
            refine S.inBlock (S.region rfl ?_)
            refine O.op (.p rfl) (.mv rfl) ?_
            refine O.op (.p rfl) (.add rfl rfl (IntWalk.i64_in _ (by omega))) ?_
            refine O.op (.p rfl) (.as rfl) ?_
            refine O.nil ?_
            rw [map_snoc _ _ _ hi, hvs]
            refine S.pk ?_ (S.weaken ?_ (ih (i + 1) (a62) (c62) ((vs ++ [.slice a60 (bytesOf rows[i]).length c60])) (by exact ⟨by omega, by simp; omega⟩) (by omega)))
            · repeat (first | exact Picks.all | exact Picks.nil | (apply Picks.cons; focus (repeat (first | exact Sel.here | apply Sel.there))) | apply Picks.skip)
            repeat (first | exact Sub.nil | refine Sub.cons rfl ?_)
          · have hi : i = rows.length := by omega
            subst hi
            rw [List.take_length, ← List.append_nil (rows.map bytesOf)]
            refine S.exit rfl ?_
            refine S.seq (S.seq (S.region rfl ?_))
            refine O.op (.p rfl) (.as rfl) ?_
            refine O.nil ?_
            refine S.block ?_
            refine S.loopK4 (ι := Nat) (κ := Option Addr) (υ := Nat) (τ := List Value) (fun i a9 c9 vs => i ≤ nums.length ∧ vs.length = rows.length + i) (fun i a9 c9 vs => [(11, .int .i64 (i : Int)), (9, .slice a9 (rows.length + i) c9)]) [(0, _), (1, _), (2, _)] (fun i a9 c9 vs => [OwnP Rp.val 25 (.slice a9 (rows.length + i) c9) vs, RowsP Rp.u8 5 vs (rows.map bytesOf ++ (nums.take i).map be)]) (fun i a9 c9 vs => nums.length - i) (0) (a9) (c9) (vs) (by exact ⟨by simp, by omega⟩) (.cons rfl (.cons rfl (.nil))) (.cons rfl (.cons rfl (.cons rfl (.nil)))) rfl fun i a9 c9 vs hx ih => ?_
            have hm3 := meltRefl (g := g)
            obtain ⟨hx1, hvs⟩ := hx
            refine S.seq (S.seq (S.region rfl ?_))
            refine O.op (.p rfl) (.mv rfl) ?_
            refine O.op (.p rfl) (.mv rfl) ?_
            refine O.op (.p rfl) (.len rfl Go.Proofs.Try.underlying23 rfl) ?_
            refine O.op (.p rfl) (.lss rfl rfl) ?_
            refine O.nil ?_
            first | refine S.condD rfl (fun h66 => ?_) (fun h66 => ?_) | refine S.condB rfl (fun h66 => ?_) (fun h66 => ?_)
            · have hi : i < nums.length := by omega
              refine S.skip (S.seq (S.block (S.region rfl ?_)))
              refine O.op (.p rfl) (.mv rfl) ?_
              refine O.op (.p rfl) (.mv rfl) ?_
              refine O.op (.p rfl) (.mv rfl) ?_
              refine O.idx' (.p rfl) Go.Proofs.Try.underlying23 Fact.size3 rfl rfl rfl (by first | assumption | exact Arr.mono hg (by assumption) | exact Arr.left (by assumption) | exact Arr.left (Arr.mono hg (by assumption))) (by decide) (by first | omega | (simp; done) | (simp; omega) | decide) (fun p72 cs72 hp72 hr72 => ?_)
              obtain ⟨rfl, hz72⟩ := hr72
              refine O.op (.p rfl) (.loadAt Fact.flat3 rfl hp72 rfl) ?_
              refine O.call0 (.p rfl) rfl Fact.ok8 rfl rfl (wNumber_c _) ?_
              rintro v74 _ ⟨a74, c74, rfl, rfl⟩
              try simp only [List.cons_append, List.nil_append, List.append_nil]
              refine O.opE (.p rfl) (.litP (T := Rp.val) (ys := [_]) Go.Proofs.Try.underlying22 Fact.elem25 (by decide) rfl rfl ⟨⟨rfl, rfl⟩, trivial⟩ (by decide)) ?_
              rintro _ _ ⟨a75, c75, rfl, rfl⟩
              refine O.opE (.p rfl) (.appendO (T := Rp.val) Go.Proofs.Try.underlying22 Fact.elem25 (by decide) rfl rfl (by repeat (first | exact Sel.here | apply Sel.there)) (by repeat (first | exact Sel.here | apply Sel.there)) (by first | omega | (simp; done) | (simp; omega) | decide) (by first | omega | (simp; done) | (simp; omega) | decide)) ?_
              rintro _ _ ⟨a76, c76, rfl, rfl⟩
              refine O.each (by repeat (first | exact Sel.here | apply Sel.there)) (by repeat (first | exact Sel.here | apply Sel.there)) ?_
              refine O.op (.p rfl) (.as rfl) ?_
              refine O.nil ?_
              refine S.inBlock (S.region rfl ?_)
              refine O.op (.p rfl) (.mv rfl) ?_
              refine O.op (.p rfl) (.add rfl rfl (IntWalk.i64_in _ (by omega))) ?_
              refine O.op (.p rfl) (.as rfl) ?_
              refine O.nil ?_
              rw [List.append_assoc, map_snoc _ _ _ hi, hvs]
              refine S.pk ?_ (S.weaken ?_ (ih (i + 1) (a76) (c76) ((vs ++ [.slice a74 8 c74])) (by exact ⟨by omega, by simp; omega⟩) (by omega)))
              · repeat (first | exact Picks.all | exact Picks.nil | (apply Picks.cons; focus (repeat (first | exact Sel.here | apply Sel.there))) | apply Picks.skip)
              repeat (first | exact Sub.nil | refine Sub.cons rfl ?_)
            · have hi : i = nums.length := by omega
              subst hi
              rw [List.take_length]
              have hlen := allOf_len rows nums
              refine S.exit rfl ?_
              refine S.seq (S.region rfl ?_)
              refine O.op (.p rfl) (.mv rfl) ?_
              refine O.frzR (by repeat (first | exact Sel.here | apply Sel.there)) (by repeat (first | exact Sel.here | apply Sel.there)) fun g hs hm hrows => ?_
              replace hg := Fr.sub_trans hg hs
              replace hR := melted hR hm
              try replace hr := hr.mono hs
              try replace hn := hn.mono hs
              replace hm1 := meltTrans hm1 hm
              replace hm2 := meltTrans hm2 hm
              replace hm3 := meltTrans hm3 hm
              clear hs hm
              refine O.call0 (.p rfl) rfl Fact.ok9 rfl rfl ((wJoin_e hrows (allOf_parts rows nums) (by omega))) ?_
              rintro v78 _ ⟨a78, c78, rfl, rfl⟩
              try simp only [List.cons_append, List.nil_append, List.append_nil]
              refine O.frzA (by repeat (first | exact Sel.here | apply Sel.there)) fun g hs hm ha78 => ?_
              replace hg := Fr.sub_trans hg hs
              replace hR := melted hR hm
              try replace hr := hr.mono hs
              try replace hn := hn.mono hs
              try replace hrows := hrows.mono hs
              replace hm1 := meltTrans hm1 hm
              replace hm2 := meltTrans hm2 hm
              replace hm3 := meltTrans hm3 hm
              clear hs hm
              refine O.op (.p rfl) (.as rfl) ?_
              refine O.nil ?_
              refine S.seq (S.seq (S.region rfl ?_))
              refine O.op (.p rfl) (.mv rfl) ?_
              refine O.op (.p rfl) (.mv rfl) ?_
              refine O.op (.p rfl) (.mv rfl) ?_
              refine O.call0 (.p rfl) rfl Fact.ok10 rfl rfl ((reads_c (by first | assumption | exact Arr.mono hg (by assumption) | exact Arr.left (by assumption) | exact Arr.left (Arr.mono hg (by assumption))) (by first | assumption | exact Arr.mono hg (by assumption) | exact Arr.left (by assumption) | exact Arr.left (Arr.mono hg (by assumption))) (by first | assumption | exact Arr.mono hg (by assumption) | exact Arr.left (by assumption) | exact Arr.left (Arr.mono hg (by assumption))) (by omega) hq')) ?_
              rintro v82 _ ⟨rfl, rfl⟩
              try simp only [List.cons_append, List.nil_append, List.append_nil]
              refine O.slot 82 (v' := .bool true) rfl (congrArg Value.bool (by first | decide | simp)) ?_
              refine O.op (.p rfl) (.not rfl) ?_
              refine O.nil ?_
              refine S.condF rfl ?_
              refine S.skip (S.seq (S.region rfl ?_))
              refine O.op (.p rfl) (.mv rfl) ?_
              refine O.call0 (.p rfl) rfl Fact.ok11 rfl rfl (CopyBytes_c (by first | assumption | exact Arr.mono hg (by assumption) | exact Arr.left (by assumption) | exact Arr.left (Arr.mono hg (by assumption))) (by first | omega | (simp; done) | (simp; omega) | decide)) ?_
              rintro v85 _ ⟨a85, c85, rfl, rfl⟩
              try simp only [List.cons_append, List.nil_append, List.append_nil]
              refine O.opE (.p rfl) (.litP (T := Rp.u8) (ys := [0]) Go.Proofs.Try.underlying25 Fact.elem5 (by decide) rfl rfl ⟨rfl, trivial⟩ (by decide)) ?_
              rintro _ _ ⟨a86, c86, rfl, rfl⟩
              refine O.opE (.p rfl) (.appendO (T := Rp.u8) Go.Proofs.Try.underlying25 Fact.elem5 (by decide) rfl rfl (by repeat (first | exact Sel.here | apply Sel.there)) (by repeat (first | exact Sel.here | apply Sel.there)) (by first | omega | (simp; done) | (simp; omega) | decide) (by first | omega | (simp; done) | (simp; omega) | decide)) ?_
              rintro _ _ ⟨a87, c87, rfl, rfl⟩
              refine O.frzA (by repeat (first | exact Sel.here | apply Sel.there)) fun g hs hm ha87 => ?_
              replace hg := Fr.sub_trans hg hs
              replace hR := melted hR hm
              try replace hr := hr.mono hs
              try replace hn := hn.mono hs
              try replace hrows := hrows.mono hs
              try replace ha78 := ha78.mono hs
              replace hm1 := meltTrans hm1 hm
              replace hm2 := meltTrans hm2 hm
              replace hm3 := meltTrans hm3 hm
              clear hs hm
              refine O.op (.p rfl) (.mv rfl) ?_
              refine O.op (.p rfl) (.mv rfl) ?_
              refine O.call0 (.p rfl) rfl Fact.ok10 rfl rfl ((reads_c (by first | assumption | exact Arr.mono hg (by assumption) | exact Arr.left (by assumption) | exact Arr.left (Arr.mono hg (by assumption))) (by first | assumption | exact Arr.mono hg (by assumption) | exact Arr.left (by assumption) | exact Arr.left (Arr.mono hg (by assumption))) (by first | assumption | exact Arr.mono hg (by assumption) | exact Arr.left (by assumption) | exact Arr.left (Arr.mono hg (by assumption))) (by simp; omega) hq')) ?_
              rintro v90 _ ⟨rfl, rfl⟩
              try simp only [List.cons_append, List.nil_append, List.append_nil]
              refine O.slot 90 (v' := .bool false) rfl (congrArg Value.bool (by first | decide | simp)) ?_
              refine O.op (.p rfl) (.eqlB Go.Proofs.Try.underlying4 rfl rfl) ?_
              refine O.slot 91 (v' := .bool true) rfl (congrArg Value.bool (by first | decide | simp)) ?_
              refine O.op (.p rfl) (.mv rfl) ?_
              refine O.op (.g rfl rfl) (.mv rfl) ?_
              refine O.op (.g rfl rfl) (.len rfl Go.Proofs.Try.underlying25 rfl) ?_
              refine O.op (.g rfl rfl) (.eql rfl rfl) ?_
              refine O.op (.g rfl rfl) (.mv rfl) ?_
              first | refine O.caseD 96 rfl (fun h96 => ?_) (fun h96 => ?_) | refine O.caseB 96 rfl (fun h96 => ?_) (fun h96 => ?_)
              · refine O.opN rfl rfl rfl ?_
                refine O.opN rfl rfl rfl ?_
                refine O.opN rfl rfl rfl ?_
                refine O.opN rfl rfl rfl ?_
                refine O.opN rfl rfl rfl ?_
                refine O.opN rfl rfl rfl ?_
                refine O.opN rfl rfl rfl ?_
                refine O.opN rfl rfl rfl ?_
                refine O.opN rfl rfl rfl ?_
                refine O.opN rfl rfl rfl ?_
                refine O.op (.g rfl rfl) (.pickT rfl rfl) ?_
                refine O.op (.p rfl) (.pickT rfl rfl) ?_
                refine O.op (.p rfl) (.as rfl) ?_
                refine O.nil ?_
                refine S.ret Go.Proofs.Try.results3 rfl fun w hw => Holds.end_ hR hw ?_
                exact ⟨_, ⟨rfl, rfl⟩, by repeat (first | exact Picks.all | exact Picks.nil | (apply Picks.cons; focus (repeat (first | exact Sel.here | apply Sel.there))) | apply Picks.skip)⟩
              · have hp := pick_bd cut ((allOf rows nums).length : Int) (by omega)
                refine O.op (.g rfl rfl) (.mv rfl) ?_
                refine O.op (.g rfl rfl) (.mv rfl) ?_
                refine O.op (.g rfl rfl) (.mv rfl) ?_
                refine O.op (.g rfl rfl) (.len rfl Go.Proofs.Try.underlying25 rfl) ?_
                refine O.call0 (.g rfl rfl) rfl Fact.ok12 rfl rfl (Pick_c _ _ (by first | assumption | (constructor <;> omega))) ?_
                rintro v101 _ ⟨rfl, rfl⟩
                try simp only [List.cons_append, List.nil_append, List.append_nil]
                refine O.sliceTo (b := (pick cut ((allOf rows nums).length : Int)).toNat) (.g rfl rfl) Go.Proofs.Try.underlying25 Fact.size5 rfl rfl (by assumption) (by first | omega | (simp; done) | (simp; omega) | decide) (by first | omega | (simp; done) | (simp; omega) | decide) (fun u102 ha102 => ?_)
                obtain ⟨a102, c102, rfl⟩ := ha102.shape
                refine O.op (.g rfl rfl) (.mv rfl) ?_
                refine O.op (.g rfl rfl) (.mv rfl) ?_
                refine O.call0 (.g rfl rfl) rfl Fact.ok10 rfl rfl ((reads_c (by first | assumption | exact Arr.mono hg (by assumption) | exact Arr.left (by assumption) | exact Arr.left (Arr.mono hg (by assumption))) (by first | assumption | exact Arr.mono hg (by assumption) | exact Arr.left (by assumption) | exact Arr.left (Arr.mono hg (by assumption))) (by first | assumption | exact Arr.mono hg (by assumption) | exact Arr.left (by assumption) | exact Arr.left (Arr.mono hg (by assumption))) (by simp; omega) hq')) ?_
                rintro v105 _ ⟨rfl, rfl⟩
                try simp only [List.cons_append, List.nil_append, List.append_nil]
                refine O.slot 105 (v' := .bool false) rfl (congrArg Value.bool (by rw [decide_eq_false_iff_not]; intro hh; have h2 := congrArg List.length hh; rw [List.length_take] at h2; omega)) ?_
                refine O.op (.g rfl rfl) (.not rfl) ?_
                refine O.op (.g rfl rfl) (.pickF rfl rfl) ?_
                refine O.op (.p rfl) (.pickT rfl rfl) ?_
                refine O.op (.p rfl) (.as rfl) ?_
                refine O.nil ?_
                refine S.ret Go.Proofs.Try.results3 rfl fun w hw => Holds.end_ hR hw ?_
                exact ⟨_, ⟨rfl, rfl⟩, by repeat (first | exact Picks.all | exact Picks.nil | (apply Picks.cons; focus (repeat (first | exact Sel.here | apply Sel.there))) | apply Picks.skip)⟩

end Go.Proofs.Ytodkpkmhnpmmgaa
