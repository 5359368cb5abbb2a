import Derived.Test.YtodkpkmhnpmmgaaWire8
open Go Go.Sp
set_option maxRecDepth 100000
attribute [local irreducible] obj Own OwnP
namespace Go.Proofs.Ytodkpkmhnpmmgaa
theorem asked_e {r : Fr} {b : Nat} {v : Value} {rest bs rest' : List UInt8} {bad f bad' : Bool} {n : Int} (what most : Int) (ha : Arr Rp.u8 r v rest) (hl : rest.length ≤ 140737488355328) (h : askM what most (!bad) rest = (n, bs, rest', f)) (hb : (bad || f) = bad') :
    Con Go.Proofs.Try.prog 20 #[.pointer (some ⟨b, 0, none⟩), .agg #[.int .i64 what, .int .i64 most]] r [obj b 36 [v, .bool true, .bool bad]]
      (Ret fun u η => ∃ a c v', u = .agg #[.int .i64 n, .slice a bs.length c, .bool (!bad'), .bool (decide ((!bad') = true ∧ rest' = []))] ∧
        Arr Rp.u8 r v' rest' ∧ η = [obj b 36 [v', .bool true, .bool bad'], OwnP Rp.u8 5 (.slice a bs.length c) bs]) := by
  have := asked_c (b := b) (bad := bad) what most ha hl
  rw [h] at this; subst hb; exact this
/-- of a reader whose bytes are its own; it is let go -/
theorem asked_f {r : Fr} {b : Nat} {v : Value} {rest bs rest' : List UInt8} {f : Bool} {n : Int} (what most : Int) (hl : rest.length ≤ 140737488355328) (h : askM what most true rest = (n, bs, rest', f)) :
    Con Go.Proofs.Try.prog 20 #[.pointer (some ⟨b, 0, none⟩), .agg #[.int .i64 what, .int .i64 most]] r [obj b 36 [v, .bool true, .bool false], OwnP Rp.u8 5 v rest]
      (Ret fun u η => ∃ a c o, u = .agg #[.int .i64 n, .slice a bs.length c, .bool (!f), .bool (decide ((!f) = true ∧ rest' = []))] ∧ η = [o, OwnP Rp.u8 5 (.slice a bs.length c) bs]) :=
  Con.lentD (η := [_]) (bs := [_]) fun m hm hd => (asked_e (bad := false) what most (hm.arr.right hd) hl h rfl).mono fun e η h => by
    cases e with
    | returned u => obtain ⟨a, c, v', h1, _, h2⟩ := h; exact ⟨a, c, _, h1, h2⟩
    | panicked _ => exact h.elim
    | outgrown => exact h.elim
theorem askM_bad (what most : Int) (rest : List UInt8) : askM what most false rest = (0, [], rest, false) := by
  unfold askM; simp [rByte, rNum, rBytes, rCount]; repeat' split
  all_goals rfl
/-- how much an ask takes -/
def askN (what : Int) (bs : List UInt8) : Nat := if pick what 4 = 0 then 1 else if pick what 4 = 2 then 8 + bs.length else 8
theorem askM_len (what most : Int) (good : Bool) (rest : List UInt8) : (askM what most good rest).2.2.1.length ≤ rest.length := by
  unfold askM rByte rNum rBytes rCount; repeat' split
  all_goals (first | (simp; done) | (simp; omega))
theorem askM_good {what most n : Int} {rest bs rest' : List UInt8} (h : askM what most true rest = (n, bs, rest', false)) : rest' = rest.drop (askN what bs) ∧ askN what bs ≤ rest.length := by
  unfold askM at h; unfold askN
  split at h
  · rename_i hk; rw [if_pos hk]
    cases rest with
    | nil => simp [rByte] at h
    | cons x xs => simp [rByte] at h; obtain ⟨_, _, rfl⟩ := h; simp
  · rename_i hk; rw [if_neg hk]
    split at h
    · rename_i hk; rw [if_neg (by omega)]
      unfold rNum at h; simp only [if_true] at h
      split at h <;> simp at h
      obtain ⟨_, _, rfl⟩ := h; exact ⟨rfl, by assumption⟩
    · split at h
      · rename_i hk; rw [if_pos hk]
        unfold rBytes at h; simp only [if_true] at h
        split at h
        · split at h
          · split at h
            · simp only [Prod.mk.injEq] at h
              obtain ⟨_, h1, h2, _⟩ := h
              have hl : bs.length = (ofBe rest).toNat := by rw [← h1, List.length_take]; omega
              rw [← h2, List.drop_drop, hl]
              exact ⟨rfl, by simp at *; omega⟩
            · simp at h
          · simp at h
        · simp at h
      · rename_i hk; rw [if_neg hk]
        unfold rCount at h; simp only [if_true] at h
        split at h
        · split at h
          · simp at h; obtain ⟨_, _, rfl⟩ := h; exact ⟨rfl, by assumption⟩
          · simp at h
        · simp at h
theorem WireOnce_c {r : Fr} {vb va : Value} {xs : List UInt8} {asks : List (Int × Int × Unit)} (hb : Arr Rp.u8 r vb xs) (ha : Arr (Rp.prod Rp.i64 (Rp.prod Rp.i64 Rp.unit)) r va asks)
    : Con Go.Proofs.Try.prog 5 #[vb, va] r [] (Ret fun v η => v = .bool true ∧ η = []) := by
  refine Con.of (n := 129) [vb, va] rfl Go.Proofs.Try.func5 rfl rfl rfl fun g hg R hR => ?_
  have hba := ha.bound
  have hb := hb.mono hg
  have ha := ha.mono hg
  obtain ⟨a2, c2, rfl⟩ := hb.shape
  obtain ⟨a3, c3, rfl⟩ := ha.shape
  refine S.seq (S.region rfl ?_)
  refine O.op (.p rfl) (.as rfl) ?_
  refine O.nil ?_
  refine S.seq (S.seq (S.region rfl ?_))
  refine O.call0 (.p rfl) rfl Fact.ok6 rfl rfl (awake_c) ?_
  rintro v11 _ ⟨rfl, rfl⟩
  try simp only [List.cons_append, List.nil_append, List.append_nil]
  refine O.slot 11 (v' := .bool true) rfl (congrArg Value.bool (by first | decide | simp)) ?_
  refine O.op (.p rfl) (.not rfl) ?_
  refine O.nil ?_
  refine S.condF rfl ?_
  refine S.skip (S.seq (S.seq (S.region rfl ?_)))
  refine O.op (.p rfl) (.mv rfl) ?_
  refine O.op (.p rfl) (.len rfl Go.Proofs.Try.underlying25 rfl) ?_
  refine O.op (.p rfl) (.gtr rfl rfl) ?_
  refine O.op (.p rfl) (.mv rfl) ?_
  first | refine O.caseD 16 rfl (fun h16 => ?_) (fun h16 => ?_) | refine O.caseB 16 rfl (fun h16 => ?_) (fun h16 => ?_)
  · refine O.opN rfl rfl rfl ?_
    refine O.opN rfl rfl rfl ?_
    refine O.opN rfl rfl rfl ?_
    refine O.op (.p rfl) (.pickT rfl rfl) ?_
    refine O.nil ?_
    refine S.condT rfl ?_
    refine S.seq (S.region rfl ?_)
    refine O.op (.p rfl) (.as rfl) ?_
    refine O.nil ?_
    refine S.ret Go.Proofs.Try.results5 rfl fun w hw => hR _ _ w ?_ hw
    exact ⟨rfl, rfl⟩
  · refine O.op (.g rfl rfl) (.mv rfl) ?_
    refine O.op (.g rfl rfl) (.len rfl Go.Proofs.Try.underlying42 rfl) ?_
    refine O.op (.g rfl rfl) (.gtr rfl rfl) ?_
    refine O.op (.p rfl) (.pickF rfl rfl) ?_
    refine O.nil ?_
    first | refine S.condD rfl (fun h20 => ?_) (fun h20 => ?_) | refine S.condB rfl (fun h20 => ?_) (fun h20 => ?_)
    · refine S.seq (S.region rfl ?_)
      refine O.op (.p rfl) (.as rfl) ?_
      refine O.nil ?_
      refine S.ret Go.Proofs.Try.results5 rfl fun w hw => hR _ _ w ?_ hw
      exact ⟨rfl, rfl⟩
    · refine S.skip (S.seq (S.region rfl ?_))
      refine O.op (.p rfl) (.mv rfl) ?_
      refine O.call0 (.p rfl) rfl Fact.ok19 rfl rfl (wNewReader_c (by first | assumption | exact Arr.mono hg (by assumption) | exact Arr.left (by assumption) | exact Arr.left (Arr.mono hg (by assumption))) (by first | omega | (simp; done) | (simp; omega) | decide)) ?_
      rintro v22 _ ⟨b22, a22, c22, rfl, rfl⟩
      try simp only [List.cons_append, List.nil_append, List.append_nil]
      refine O.frzA (by repeat (first | exact Sel.here | apply Sel.there)) fun g hs hm ha22 => ?_
      replace hg := Fr.sub_trans hg hs
      replace hR := melted hR hm
      try replace hb := hb.mono hs
      try replace ha := ha.mono hs
      clear hs hm
      refine O.op (.p rfl) (.as rfl) ?_
      refine O.nil ?_
      refine S.seq (S.region rfl ?_)
      refine O.op (.p rfl) (.as rfl) ?_
      refine O.nil ?_
      refine S.seq (S.seq (S.region rfl ?_))
      refine O.op (.p rfl) (.as rfl) ?_
      refine O.nil ?_
      refine S.block ?_
      refine S.loopK4 (ι := Nat) (κ := Nat) (υ := Bool) (τ := Value × List UInt8) (fun i at' bad p => i ≤ asks.length ∧ Arr Rp.u8 g.h p.1 p.2 ∧ p.2.length ≤ xs.length ∧ at' ≤ xs.length ∧ (bad = false → p.2 = xs.drop at')) (fun i at' bad p => [(7, .int .i64 (i : Int)), (6, .int .i64 (at' : Int))]) [(0, _), (1, _), (5, _)] (fun i at' bad p => [obj b22 36 [p.1, .bool true, .bool bad]]) (fun i at' bad p => asks.length - i) (0) (0) (false) ((.slice a22 xs.length c22, xs)) (by exact ⟨by simp, ha22, by simp, by simp, by simp⟩) (.cons rfl (.cons rfl (.nil))) (.cons rfl (.cons rfl (.cons rfl (.nil)))) rfl fun i at' bad p hx ih => ?_
      have hm1 := meltRefl (g := g)
      obtain ⟨hx1, hv, hle, hat, hg'⟩ := hx
      obtain ⟨v, rest⟩ := p
      dsimp only at hv hle hg' ⊢
      refine S.seq (S.seq (S.region rfl ?_))
      refine O.op (.p rfl) (.mv rfl) ?_
      refine O.op (.p rfl) (.mv rfl) ?_
      refine O.op (.p rfl) (.len rfl Go.Proofs.Try.underlying42 rfl) ?_
      refine O.op (.p rfl) (.lss rfl rfl) ?_
      refine O.nil ?_
      first | refine S.condD rfl (fun h26 => ?_) (fun h26 => ?_) | refine S.condB rfl (fun h26 => ?_) (fun h26 => ?_)
      · have hi : i < asks.length := by omega
        obtain ⟨n, bs, rest', f, hE⟩ : ∃ n bs rest' f, askM asks[i].1 asks[i].2.1 (!bad) rest = (n, bs, rest', f) := ⟨_, _, _, _, rfl⟩
        have hl' : rest'.length ≤ rest.length := by have h := askM_len asks[i].1 asks[i].2.1 (!bad) rest; rw [hE] at h; exact h
        cases bad with
        | true =>
          rw [Bool.not_true, askM_bad] at hE
          cases hE
          refine S.skip (S.seq (S.block (S.seq (S.region rfl ?_))))
          refine O.op (.p rfl) (.mv rfl) ?_
          refine O.callS (.p rfl) rfl Fact.ok17 rfl rfl (by repeat (first | exact Sel.here | apply Sel.there)) rGood_c ?_
          rintro v30 _ ⟨rfl, rfl⟩
          try simp only [List.cons_append, List.nil_append, List.append_nil]
          refine O.slot 30 (v' := .bool false) rfl (congrArg Value.bool (by first | decide | simp)) ?_
          refine O.op (.p rfl) (.as rfl) ?_
          refine O.nil ?_
          refine S.seq (S.region rfl ?_)
          refine O.op (.p rfl) (.mv rfl) ?_
          refine O.op (.p rfl) (.mv rfl) ?_
          refine O.op (.p rfl) (.mv rfl) ?_
          refine O.idx' (.p rfl) Go.Proofs.Try.underlying42 Fact.size48 rfl rfl rfl (by first | assumption | exact Arr.mono hg (by assumption) | exact Arr.left (by assumption) | exact Arr.left (Arr.mono hg (by assumption))) (by decide) (by first | omega | (simp; done) | (simp; omega) | decide) (fun p34 cs34 hp34 hr34 => ?_)
          obtain ⟨_, _, rfl, ⟨rfl, hz34⟩, _, _, rfl, ⟨rfl, hy34⟩, hw34⟩ := hr34; cases hw34; simp only [List.cons_append, List.nil_append, List.append_nil] at hp34
          refine O.op (.p rfl) (.loadAgg Go.Proofs.Try.isAgg48 (by kernel_rfl) rfl hp34) ?_
          refine O.callS (.p rfl) rfl Fact.ok20 rfl rfl (by repeat (first | exact Sel.here | apply Sel.there)) (asked_e _ _ (by first | assumption | exact Arr.mono hg (by assumption) | exact Arr.left (by assumption) | exact Arr.left (Arr.mono hg (by assumption))) (by omega) (askM_bad _ _ _) rfl) ?_
          rintro v36 _ ⟨a36, c36, v36', rfl, ha36', rfl⟩
          try simp only [List.cons_append, List.nil_append, List.append_nil]
          refine O.opE (.p rfl) (.alloc (cs := [.int .i64 0, .slice none 0 0, .bool false, .bool false]) Go.Proofs.Try.zeroValue45 rfl) ?_
          rintro _ _ ⟨b9, rfl, rfl⟩
          refine O.opU rfl (.storeObj (by kernel_rfl) rfl rfl rfl rfl (by repeat (first | exact Sel.here | apply Sel.there)) (by first | (simp; done) | (simp [Value.cells]; done))) ?_
          refine O.nil ?_
          refine S.seq (S.seq (S.region rfl ?_))
          refine O.op (.p rfl) (.mv rfl) ?_
          refine O.op (.p rfl) (.not rfl) ?_
          refine O.op (.p rfl) (.mv rfl) ?_
          refine O.op (.g rfl rfl) (.fieldObj Fact.fld45x2 rfl) ?_
          refine O.op (.g rfl rfl) (.loadObj Fact.flat4 rfl (by repeat (first | exact Sel.here | apply Sel.there)) rfl) ?_
          refine O.slot 41 (v' := .bool false) rfl (congrArg Value.bool (by first | decide | simp)) ?_
          refine O.op (.g rfl rfl) (.mv rfl) ?_
          refine O.op (.g rfl rfl) (.fieldObj Fact.fld45x3 rfl) ?_
          refine O.op (.g rfl rfl) (.loadObj Fact.flat4 rfl (by repeat (first | exact Sel.here | apply Sel.there)) rfl) ?_
          refine O.slot 44 (v' := .bool false) rfl (congrArg Value.bool (by first | decide | simp)) ?_
          refine O.op (.g rfl rfl) (.pickF rfl rfl) ?_
          refine O.op (.g rfl rfl) (.mv rfl) ?_
          refine O.op (.g rfl rfl) (.fieldObj Fact.fld45x0 rfl) ?_
          refine O.op (.g rfl rfl) (.loadObj Fact.flat3 rfl (by repeat (first | exact Sel.here | apply Sel.there)) rfl) ?_
          refine O.op (.g rfl rfl) (.neq rfl rfl) ?_
          refine O.slot 49 (v' := .bool false) rfl (congrArg Value.bool (by first | decide | simp)) ?_
          refine O.op (.g rfl rfl) (.pickF rfl rfl) ?_
          refine O.op (.g rfl rfl) (.mv rfl) ?_
          refine O.op (.g rfl rfl) (.fieldObj Fact.fld45x1 rfl) ?_
          refine O.op (.g rfl rfl) (.loadObj Fact.flat25 rfl (by repeat (first | exact Sel.here | apply Sel.there)) rfl) ?_
          refine O.op (.g rfl rfl) (.len rfl Go.Proofs.Try.underlying25 rfl) ?_
          refine O.op (.g rfl rfl) (.neq rfl rfl) ?_
          refine O.slot 55 (v' := .bool false) rfl (congrArg Value.bool (by first | decide | simp)) ?_
          refine O.op (.g rfl rfl) (.pickF rfl rfl) ?_
          refine O.op (.p rfl) (.pickT rfl rfl) ?_
          refine O.nil ?_
          refine S.condF rfl ?_
          refine S.skip (S.seq (S.seq (S.region rfl ?_)))
          refine O.op (.p rfl) (.mv rfl) ?_
          refine O.op (.p rfl) (.not rfl) ?_
          refine O.op (.p rfl) (.mv rfl) ?_
          refine O.opN rfl rfl rfl ?_
          refine O.opN rfl rfl rfl ?_
          refine O.opN rfl rfl rfl ?_
          refine O.op (.p rfl) (.pickT rfl rfl) ?_
          refine O.nil ?_
          refine S.condT rfl ?_
          refine S.exit rfl ?_
          refine S.region rfl ?_
          refine O.op (.p rfl) (.mv rfl) ?_
          refine O.op (.p rfl) (.add rfl rfl (IntWalk.i64_in _ (by omega))) ?_
          refine O.op (.p rfl) (.as rfl) ?_
          refine O.nil ?_
          refine S.pk ?_ (S.weaken ?_ (ih (i + 1) (at') (true) ((v36', rest)) (by exact ⟨by omega, by first | assumption | exact Arr.mono hg (by assumption) | exact Arr.left (by assumption) | exact Arr.left (Arr.mono hg (by assumption)), hle, hat, by simp⟩) (by omega)))
          · repeat (first | exact Picks.all | exact Picks.nil | (apply Picks.cons; focus (repeat (first | exact Sel.here | apply Sel.there))) | apply Picks.skip)
          repeat (first | exact Sub.nil | refine Sub.cons rfl ?_)
        | false =>
          cases f with
          | true =>
            refine S.skip (S.seq (S.block (S.seq (S.region rfl ?_))))
            refine O.op (.p rfl) (.mv rfl) ?_
            refine O.callS (.p rfl) rfl Fact.ok17 rfl rfl (by repeat (first | exact Sel.here | apply Sel.there)) rGood_c ?_
            rintro v30 _ ⟨rfl, rfl⟩
            try simp only [List.cons_append, List.nil_append, List.append_nil]
            refine O.slot 30 (v' := .bool true) rfl (congrArg Value.bool (by first | decide | simp)) ?_
            refine O.op (.p rfl) (.as rfl) ?_
            refine O.nil ?_
            refine S.seq (S.region rfl ?_)
            refine O.op (.p rfl) (.mv rfl) ?_
            refine O.op (.p rfl) (.mv rfl) ?_
            refine O.op (.p rfl) (.mv rfl) ?_
            refine O.idx' (.p rfl) Go.Proofs.Try.underlying42 Fact.size48 rfl rfl rfl (by first | assumption | exact Arr.mono hg (by assumption) | exact Arr.left (by assumption) | exact Arr.left (Arr.mono hg (by assumption))) (by decide) (by first | omega | (simp; done) | (simp; omega) | decide) (fun p34 cs34 hp34 hr34 => ?_)
            obtain ⟨_, _, rfl, ⟨rfl, hz34⟩, _, _, rfl, ⟨rfl, hy34⟩, hw34⟩ := hr34; cases hw34; simp only [List.cons_append, List.nil_append, List.append_nil] at hp34
            refine O.op (.p rfl) (.loadAgg Go.Proofs.Try.isAgg48 (by kernel_rfl) rfl hp34) ?_
            refine O.callS (.p rfl) rfl Fact.ok20 rfl rfl (by repeat (first | exact Sel.here | apply Sel.there)) (asked_e _ _ (by first | assumption | exact Arr.mono hg (by assumption) | exact Arr.left (by assumption) | exact Arr.left (Arr.mono hg (by assumption))) (by omega) hE rfl) ?_
            rintro v36 _ ⟨a36, c36, v36', rfl, ha36', rfl⟩
            try simp only [List.cons_append, List.nil_append, List.append_nil]
            refine O.opE (.p rfl) (.alloc (cs := [.int .i64 0, .slice none 0 0, .bool false, .bool false]) Go.Proofs.Try.zeroValue45 rfl) ?_
            rintro _ _ ⟨b9, rfl, rfl⟩
            refine O.opU rfl (.storeObj (by kernel_rfl) rfl rfl rfl rfl (by repeat (first | exact Sel.here | apply Sel.there)) (by first | (simp; done) | (simp [Value.cells]; done))) ?_
            refine O.nil ?_
            refine S.seq (S.seq (S.region rfl ?_))
            refine O.op (.p rfl) (.mv rfl) ?_
            refine O.op (.p rfl) (.not rfl) ?_
            refine O.op (.p rfl) (.mv rfl) ?_
            refine O.opN rfl rfl rfl ?_
            refine O.opN rfl rfl rfl ?_
            refine O.opN rfl rfl rfl ?_
            refine O.opN rfl rfl rfl ?_
            refine O.opN rfl rfl rfl ?_
            refine O.opN rfl rfl rfl ?_
            refine O.opN rfl rfl rfl ?_
            refine O.opN rfl rfl rfl ?_
            refine O.opN rfl rfl rfl ?_
            refine O.opN rfl rfl rfl ?_
            refine O.opN rfl rfl rfl ?_
            refine O.opN rfl rfl rfl ?_
            refine O.opN rfl rfl rfl ?_
            refine O.opN rfl rfl rfl ?_
            refine O.opN rfl rfl rfl ?_
            refine O.opN rfl rfl rfl ?_
            refine O.opN rfl rfl rfl ?_
            refine O.op (.p rfl) (.pickF rfl rfl) ?_
            refine O.nil ?_
            refine S.condF rfl ?_
            refine S.skip (S.seq (S.seq (S.region rfl ?_)))
            refine O.op (.p rfl) (.mv rfl) ?_
            refine O.op (.p rfl) (.not rfl) ?_
            refine O.op (.p rfl) (.mv rfl) ?_
            refine O.op (.g rfl rfl) (.fieldObj Fact.fld45x2 rfl) ?_
            refine O.op (.g rfl rfl) (.loadObj Fact.flat4 rfl (by repeat (first | exact Sel.here | apply Sel.there)) rfl) ?_
            refine O.slot 62 (v' := .bool false) rfl (congrArg Value.bool (by first | decide | simp)) ?_
            refine O.op (.g rfl rfl) (.not rfl) ?_
            refine O.op (.p rfl) (.pickF rfl rfl) ?_
            refine O.nil ?_
            refine S.condT rfl ?_
            refine S.exit rfl ?_
            refine S.region rfl ?_
            refine O.op (.p rfl) (.mv rfl) ?_
            refine O.op (.p rfl) (.add rfl rfl (IntWalk.i64_in _ (by omega))) ?_
            refine O.op (.p rfl) (.as rfl) ?_
            refine O.nil ?_
            refine S.pk ?_ (S.weaken ?_ (ih (i + 1) (at') (true) ((v36', rest')) (by exact ⟨by omega, by first | assumption | exact Arr.mono hg (by assumption) | exact Arr.left (by assumption) | exact Arr.left (Arr.mono hg (by assumption)), by dsimp only; omega, hat, by simp⟩) (by omega)))
            · repeat (first | exact Picks.all | exact Picks.nil | (apply Picks.cons; focus (repeat (first | exact Sel.here | apply Sel.there))) | apply Picks.skip)
            repeat (first | exact Sub.nil | refine Sub.cons rfl ?_)
          | false =>
            obtain ⟨hd1, hd2⟩ := askM_good hE
            have hrest := hg' rfl
            subst hrest
            have hk2 : at' + askN asks[i].1 bs ≤ xs.length := by rw [List.length_drop] at hd2; omega
            rw [List.drop_drop] at hd1
            have hdone : (rest' = []) ↔ at' + askN asks[i].1 bs = xs.length := by rw [hd1, List.drop_eq_nil_iff]; omega
            refine S.skip (S.seq (S.block (S.seq (S.region rfl ?_))))
            refine O.op (.p rfl) (.mv rfl) ?_
            refine O.callS (.p rfl) rfl Fact.ok17 rfl rfl (by repeat (first | exact Sel.here | apply Sel.there)) rGood_c ?_
            rintro v30 _ ⟨rfl, rfl⟩
            try simp only [List.cons_append, List.nil_append, List.append_nil]
            refine O.slot 30 (v' := .bool true) rfl (congrArg Value.bool (by first | decide | simp)) ?_
            refine O.op (.p rfl) (.as rfl) ?_
            refine O.nil ?_
            refine S.seq (S.region rfl ?_)
            refine O.op (.p rfl) (.mv rfl) ?_
            refine O.op (.p rfl) (.mv rfl) ?_
            refine O.op (.p rfl) (.mv rfl) ?_
            refine O.idx' (.p rfl) Go.Proofs.Try.underlying42 Fact.size48 rfl rfl rfl (by first | assumption | exact Arr.mono hg (by assumption) | exact Arr.left (by assumption) | exact Arr.left (Arr.mono hg (by assumption))) (by decide) (by first | omega | (simp; done) | (simp; omega) | decide) (fun p34 cs34 hp34 hr34 => ?_)
            obtain ⟨_, _, rfl, ⟨rfl, hz34⟩, _, _, rfl, ⟨rfl, hy34⟩, hw34⟩ := hr34; cases hw34; simp only [List.cons_append, List.nil_append, List.append_nil] at hp34
            refine O.op (.p rfl) (.loadAgg Go.Proofs.Try.isAgg48 (by kernel_rfl) rfl hp34) ?_
            refine O.callS (.p rfl) rfl Fact.ok20 rfl rfl (by repeat (first | exact Sel.here | apply Sel.there)) (asked_e (bad' := false) _ _ (by first | assumption | exact Arr.mono hg (by assumption) | exact Arr.left (by assumption) | exact Arr.left (Arr.mono hg (by assumption))) (by omega) hE rfl) ?_
            rintro v36 _ ⟨a36, c36, v36', rfl, ha36', rfl⟩
            try simp only [List.cons_append, List.nil_append, List.append_nil]
            have hk36 := ha36'
            refine O.frzA (by repeat (first | exact Sel.here | apply Sel.there)) fun g hs hm ha36 => ?_
            replace hg := Fr.sub_trans hg hs
            replace hR := melted hR hm
            try replace hb := hb.mono hs
            try replace ha := ha.mono hs
            try replace ha22 := ha22.mono hs
            try replace hp34 := hp34.mono hs
            try replace ha36' := ha36'.mono hs
            replace hm1 := meltTrans hm1 hm
            clear hs hm
            refine O.opE (.p rfl) (.alloc (cs := [.int .i64 0, .slice none 0 0, .bool false, .bool false]) Go.Proofs.Try.zeroValue45 rfl) ?_
            rintro _ _ ⟨b9, rfl, rfl⟩
            refine O.opU rfl (.storeObj (by kernel_rfl) rfl rfl rfl rfl (by repeat (first | exact Sel.here | apply Sel.there)) (by first | (simp; done) | (simp [Value.cells]; done))) ?_
            refine O.nil ?_
            refine S.seq (S.seq (S.region rfl ?_))
            refine O.op (.p rfl) (.mv rfl) ?_
            refine O.op (.p rfl) (.not rfl) ?_
            refine O.op (.p rfl) (.mv rfl) ?_
            refine O.opN rfl rfl rfl ?_
            refine O.opN rfl rfl rfl ?_
            refine O.opN rfl rfl rfl ?_
            refine O.opN rfl rfl rfl ?_
            refine O.opN rfl rfl rfl ?_
            refine O.opN rfl rfl rfl ?_
            refine O.opN rfl rfl rfl ?_
            refine O.opN rfl rfl rfl ?_
            refine O.opN rfl rfl rfl ?_
            refine O.opN rfl rfl rfl ?_
            refine O.opN rfl rfl rfl ?_
            refine O.opN rfl rfl rfl ?_
            refine O.opN rfl rfl rfl ?_
            refine O.opN rfl rfl rfl ?_
            refine O.opN rfl rfl rfl ?_
            refine O.opN rfl rfl rfl ?_
            refine O.opN rfl rfl rfl ?_
            refine O.op (.p rfl) (.pickF rfl rfl) ?_
            refine O.nil ?_
            refine S.condF rfl ?_
            refine S.skip (S.seq (S.seq (S.region rfl ?_)))
            refine O.op (.p rfl) (.mv rfl) ?_
            refine O.op (.p rfl) (.not rfl) ?_
            refine O.op (.p rfl) (.mv rfl) ?_
            refine O.op (.g rfl rfl) (.fieldObj Fact.fld45x2 rfl) ?_
            refine O.op (.g rfl rfl) (.loadObj Fact.flat4 rfl (by repeat (first | exact Sel.here | apply Sel.there)) rfl) ?_
            refine O.slot 62 (v' := .bool true) rfl (congrArg Value.bool (by first | decide | simp)) ?_
            refine O.op (.g rfl rfl) (.not rfl) ?_
            refine O.op (.p rfl) (.pickF rfl rfl) ?_
            refine O.nil ?_
            refine S.condF rfl ?_
            refine S.skip (S.seq (S.regionD (L := [0, 1, 2, 4, 5, 6, 7, 3, 8, 9, 10]) Fact.mixed (by kernel_rfl) ?_))
            refine .quiet (.p rfl) rfl (fun _ => .mv rfl) ?_
            refine .quiet (.p rfl) rfl (fun _ => .mv rfl) ?_
            refine OD.sliceFrom (a := at') (.p rfl) Go.Proofs.Try.underlying25 Fact.size5 rfl rfl (by assumption) (by first | omega | (simp; done) | (simp; omega) | decide) (by first | omega | (simp; done) | (simp; omega) | decide) (fun u67 ha67 => ?_)
            obtain ⟨a67, c67, rfl⟩ := ha67.shape
            refine .quiet (.p rfl) rfl (fun _ => .mv rfl) ?_
            refine .quiet (.p rfl) rfl (fun _ => .mv rfl) ?_
            refine OD.idx' (.p rfl) Go.Proofs.Try.underlying42 Fact.size48 rfl rfl rfl (by first | assumption | exact Arr.mono hg (by assumption) | exact Arr.left (by assumption) | exact Arr.left (Arr.mono hg (by assumption))) (by decide) (by first | omega | (simp; done) | (simp; omega) | decide) (fun p71 cs71 hp71 hr71 => ?_)
            obtain ⟨_, _, rfl, ⟨rfl, hz71⟩, _, _, rfl, ⟨rfl, hy71⟩, hw71⟩ := hr71; cases hw71; simp only [List.cons_append, List.nil_append, List.append_nil] at hp71
            refine .quiet (.p rfl) rfl (fun _ => .loadAgg Go.Proofs.Try.isAgg48 (by kernel_rfl) rfl hp71) ?_
            refine OD.call0 (.p rfl) (by kernel_rfl) rfl Fact.ok19 rfl rfl ((wNewReader_c (by first | assumption | exact Arr.mono hg (by assumption) | exact Arr.left (by assumption) | exact Arr.left (Arr.mono hg (by assumption))) (by omega))) ?_
            rintro v68 _ ⟨b68, a68, c68, rfl, rfl⟩
            try simp only [List.cons_append, List.nil_append, List.append_nil]
            refine OD.callSs (.p rfl) (by kernel_rfl) rfl Fact.ok20 rfl rfl (by repeat (first | exact Sels.nil | (apply Sels.cons; focus (repeat (first | exact Sel.here | apply Sel.there))))) (asked_f _ _ (by omega) hE) ?_
            rintro v73 _ ⟨a73, c73, o73, rfl, rfl⟩
            try simp only [List.cons_append, List.nil_append, List.append_nil]
            refine .lazy rfl (by kernel_rfl) rfl fun b10 => ?_
            refine OD.storeObj rfl (by kernel_rfl) (by kernel_rfl) rfl rfl rfl rfl (by repeat (first | exact Sel.here | apply Sel.there)) (by first | (simp; done) | (simp [Value.cells]; done)) ?_
            refine .nil ?_
            refine S.seq (S.seq (S.region rfl ?_))
            refine O.op (.p rfl) (.mv rfl) ?_
            refine O.op (.p rfl) (.mv rfl) ?_
            refine O.idx' (.p rfl) Go.Proofs.Try.underlying42 Fact.size48 rfl rfl rfl (by first | assumption | exact Arr.mono hg (by assumption) | exact Arr.left (by assumption) | exact Arr.left (Arr.mono hg (by assumption))) (by decide) (by first | omega | (simp; done) | (simp; omega) | decide) (fun p76 cs76 hp76 hr76 => ?_)
            obtain ⟨_, _, rfl, ⟨rfl, hz76⟩, _, _, rfl, ⟨rfl, hy76⟩, hw76⟩ := hr76; cases hw76; simp only [List.cons_append, List.nil_append, List.append_nil] at hp76
            refine O.op (.p rfl) (.fieldAddr Fact.fld48x0 rfl) ?_
            refine O.op (.p rfl) (.loadAt Fact.flat3 rfl hp76 rfl) ?_
            refine O.call0 (.p rfl) rfl Fact.ok12 rfl rfl (Pick_c _ _ (by first | assumption | (constructor <;> omega))) ?_
            rintro v79 _ ⟨rfl, rfl⟩
            try simp only [List.cons_append, List.nil_append, List.append_nil]
            refine O.nil ?_
            refine S.block (S.seq (S.region rfl ?_))
            refine O.op (.p rfl) (.eql rfl rfl) ?_
            refine O.op (.p rfl) (.as rfl) ?_
            refine O.nil ?_
            first | refine S.condD rfl (fun h82 => ?_) (fun h82 => ?_) | refine S.condB rfl (fun h82 => ?_) (fun h82 => ?_)
            · have hp : pick asks[i].1 4 = 0 := by assumption
              have hN : askN asks[i].1 bs = 1 := by unfold askN; rw [if_pos hp]
              rw [hN] at hk2 hdone hd1
              have e : decide ((!false) = true ∧ rest' = []) = decide (((at' : Int) + 1) = (xs.length : Int)) := by rw [decide_eq_decide, hdone]; simp; omega
              refine S.frzA (by repeat (first | exact Sel.here | apply Sel.there)) fun g hs hm hay => ?_
              replace hg := Fr.sub_trans hg hs
              replace hR := melted hR hm
              try replace hb := hb.mono hs
              try replace ha := ha.mono hs
              try replace ha22 := ha22.mono hs
              try replace hp34 := hp34.mono hs
              try replace ha36' := ha36'.mono hs
              try replace ha36 := ha36.mono hs
              try replace hp71 := hp71.mono hs
              try replace hp76 := hp76.mono hs
              replace hm1 := meltTrans hm1 hm
              clear hs hm
              refine S.region rfl ?_
              refine O.op (.p rfl) (.mv rfl) ?_
              refine O.op (.p rfl) (.add rfl rfl (IntWalk.i64_in _ (by omega))) ?_
              refine O.op (.p rfl) (.as rfl) ?_
              refine O.nil ?_
              refine S.inBlock (S.seq (S.region rfl ?_))
              refine O.op (.p rfl) (.mv rfl) ?_
              refine O.op (.p rfl) (.mv rfl) ?_
              refine O.op (.p rfl) (.len rfl Go.Proofs.Try.underlying25 rfl) ?_
              refine O.op (.p rfl) (.gtr rfl rfl) ?_
              refine O.slot 97 (v' := .bool false) rfl (congrArg Value.bool (by simp; omega)) ?_
              refine O.op (.p rfl) (.mv rfl) ?_
              refine O.op (.g rfl rfl) (.fieldObj Fact.fld45x0 rfl) ?_
              refine O.op (.g rfl rfl) (.loadObj Fact.flat3 rfl (by repeat (first | exact Sel.here | apply Sel.there)) rfl) ?_
              refine O.op (.g rfl rfl) (.fieldObj Fact.fld45x0 rfl) ?_
              refine O.op (.g rfl rfl) (.loadObj Fact.flat3 rfl (by repeat (first | exact Sel.here | apply Sel.there)) rfl) ?_
              refine O.op (.g rfl rfl) (.neq rfl rfl) ?_
              refine O.slot 103 (v' := .bool false) rfl (congrArg Value.bool (by first | decide | simp)) ?_
              refine O.op (.p rfl) (.pickF rfl rfl) ?_
              refine O.op (.p rfl) (.mv rfl) ?_
              refine O.op (.g rfl rfl) (.fieldObj Fact.fld45x1 rfl) ?_
              refine O.op (.g rfl rfl) (.loadObj Fact.flat25 rfl (by repeat (first | exact Sel.here | apply Sel.there)) rfl) ?_
              refine O.op (.g rfl rfl) (.fieldObj Fact.fld45x1 rfl) ?_
              refine O.op (.g rfl rfl) (.loadObj Fact.flat25 rfl (by repeat (first | exact Sel.here | apply Sel.there)) rfl) ?_
              refine O.call0 (.g rfl rfl) rfl Fact.ok21 rfl rfl (SameBytes_c (by first | assumption | exact Arr.mono hg (by assumption) | exact Arr.left (by assumption) | exact Arr.left (Arr.mono hg (by assumption))) (by first | assumption | exact Arr.mono hg (by assumption) | exact Arr.left (by assumption) | exact Arr.left (Arr.mono hg (by assumption)))) ?_
              rintro v110 _ ⟨rfl, rfl⟩
              try simp only [List.cons_append, List.nil_append, List.append_nil]
              refine O.slot 110 (v' := .bool true) rfl (congrArg Value.bool (by first | decide | simp)) ?_
              refine O.op (.g rfl rfl) (.not rfl) ?_
              refine O.op (.p rfl) (.pickF rfl rfl) ?_
              refine O.op (.p rfl) (.mv rfl) ?_
              refine O.op (.g rfl rfl) (.fieldObj Fact.fld45x3 rfl) ?_
              refine O.op (.g rfl rfl) (.loadObj Fact.flat4 rfl (by repeat (first | exact Sel.here | apply Sel.there)) rfl) ?_
              refine O.op (.g rfl rfl) (.fieldObj Fact.fld45x3 rfl) ?_
              refine O.op (.g rfl rfl) (.loadObj Fact.flat4 rfl (by repeat (first | exact Sel.here | apply Sel.there)) rfl) ?_
              refine O.op (.g rfl rfl) (.neqB Go.Proofs.Try.underlying4 rfl rfl) ?_
              refine O.slot 118 (v' := .bool false) rfl (congrArg Value.bool (by first | decide | simp)) ?_
              refine O.op (.p rfl) (.pickF rfl rfl) ?_
              refine O.op (.p rfl) (.mv rfl) ?_
              refine O.op (.g rfl rfl) (.fieldObj Fact.fld45x3 rfl) ?_
              refine O.op (.g rfl rfl) (.loadObj Fact.flat4 rfl (by repeat (first | exact Sel.here | apply Sel.there)) rfl) ?_
              refine O.op (.g rfl rfl) (.mv rfl) ?_
              refine O.op (.g rfl rfl) (.mv rfl) ?_
              refine O.op (.g rfl rfl) (.len rfl Go.Proofs.Try.underlying25 rfl) ?_
              refine O.op (.g rfl rfl) (.eql rfl rfl) ?_
              refine O.op (.g rfl rfl) (.neqB Go.Proofs.Try.underlying4 rfl rfl) ?_
              refine O.slot 127 (v' := .bool false) rfl (congrArg Value.bool (by rw [e]; simp)) ?_
              refine O.op (.p rfl) (.pickF rfl rfl) ?_
              refine O.nil ?_
              refine S.condF rfl ?_
              refine S.skip (S.inBlock (S.region rfl ?_))
              refine O.op (.p rfl) (.mv rfl) ?_
              refine O.op (.p rfl) (.add rfl rfl (IntWalk.i64_in _ (by omega))) ?_
              refine O.op (.p rfl) (.as rfl) ?_
              refine O.nil ?_
              refine S.pk ?_ (S.melt hm1 (S.weaken ?_ (ih (i + 1) (at' + (1)) (false) ((v36', rest')) (by exact ⟨by omega, by exact hk36, by dsimp only; omega, hk2, fun _ => hd1⟩) (by omega))))
              · repeat (first | exact Picks.all | exact Picks.nil | (apply Picks.cons; focus (repeat (first | exact Sel.here | apply Sel.there))) | apply Picks.skip)
              repeat (first | exact Sub.nil | refine Sub.cons rfl ?_)
            · have hp0 : ¬ pick asks[i].1 4 = 0 := by assumption
              refine S.seq (S.region rfl ?_)
              refine O.op (.p rfl) (.eql rfl rfl) ?_
              refine O.op (.p rfl) (.as rfl) ?_
              refine O.nil ?_
              first | refine S.condD rfl (fun h86 => ?_) (fun h86 => ?_) | refine S.condB rfl (fun h86 => ?_) (fun h86 => ?_)
              · have hp : pick asks[i].1 4 = 2 := by assumption
                have hN : askN asks[i].1 bs = 8 + bs.length := by unfold askN; rw [if_neg hp0, if_pos hp]
                rw [hN] at hk2 hdone hd1
                have e : decide ((!false) = true ∧ rest' = []) = decide (((at' : Int) + 8 + (bs.length : Int)) = (xs.length : Int)) := by rw [decide_eq_decide, hdone]; simp; omega
                refine S.frzA (by repeat (first | exact Sel.here | apply Sel.there)) fun g hs hm hay => ?_
                replace hg := Fr.sub_trans hg hs
                replace hR := melted hR hm
                try replace hb := hb.mono hs
                try replace ha := ha.mono hs
                try replace ha22 := ha22.mono hs
                try replace hp34 := hp34.mono hs
                try replace ha36' := ha36'.mono hs
                try replace ha36 := ha36.mono hs
                try replace hp71 := hp71.mono hs
                try replace hp76 := hp76.mono hs
                replace hm1 := meltTrans hm1 hm
                clear hs hm
                refine S.region rfl ?_
                refine O.op (.p rfl) (.mv rfl) ?_
                refine O.op (.p rfl) (.add rfl rfl (IntWalk.i64_in _ (by omega))) ?_
                refine O.op (.p rfl) (.fieldObj Fact.fld45x1 rfl) ?_
                refine O.op (.p rfl) (.loadObj Fact.flat25 rfl (by repeat (first | exact Sel.here | apply Sel.there)) rfl) ?_
                refine O.op (.p rfl) (.len rfl Go.Proofs.Try.underlying25 rfl) ?_
                refine O.op (.p rfl) (.add rfl rfl (IntWalk.i64_in _ (by omega))) ?_
                refine O.op (.p rfl) (.as rfl) ?_
                refine O.nil ?_
                refine S.inBlock (S.seq (S.region rfl ?_))
                refine O.op (.p rfl) (.mv rfl) ?_
                refine O.op (.p rfl) (.mv rfl) ?_
                refine O.op (.p rfl) (.len rfl Go.Proofs.Try.underlying25 rfl) ?_
                refine O.op (.p rfl) (.gtr rfl rfl) ?_
                refine O.slot 97 (v' := .bool false) rfl (congrArg Value.bool (by simp; omega)) ?_
                refine O.op (.p rfl) (.mv rfl) ?_
                refine O.op (.g rfl rfl) (.fieldObj Fact.fld45x0 rfl) ?_
                refine O.op (.g rfl rfl) (.loadObj Fact.flat3 rfl (by repeat (first | exact Sel.here | apply Sel.there)) rfl) ?_
                refine O.op (.g rfl rfl) (.fieldObj Fact.fld45x0 rfl) ?_
                refine O.op (.g rfl rfl) (.loadObj Fact.flat3 rfl (by repeat (first | exact Sel.here | apply Sel.there)) rfl) ?_
                refine O.op (.g rfl rfl) (.neq rfl rfl) ?_
                refine O.slot 103 (v' := .bool false) rfl (congrArg Value.bool (by first | decide | simp)) ?_
                refine O.op (.p rfl) (.pickF rfl rfl) ?_
                refine O.op (.p rfl) (.mv rfl) ?_
                refine O.op (.g rfl rfl) (.fieldObj Fact.fld45x1 rfl) ?_
                refine O.op (.g rfl rfl) (.loadObj Fact.flat25 rfl (by repeat (first | exact Sel.here | apply Sel.there)) rfl) ?_
                refine O.op (.g rfl rfl) (.fieldObj Fact.fld45x1 rfl) ?_
                refine O.op (.g rfl rfl) (.loadObj Fact.flat25 rfl (by repeat (first | exact Sel.here | apply Sel.there)) rfl) ?_
                refine O.call0 (.g rfl rfl) rfl Fact.ok21 rfl rfl (SameBytes_c (by first | assumption | exact Arr.mono hg (by assumption) | exact Arr.left (by assumption) | exact Arr.left (Arr.mono hg (by assumption))) (by first | assumption | exact Arr.mono hg (by assumption) | exact Arr.left (by assumption) | exact Arr.left (Arr.mono hg (by assumption)))) ?_
                rintro v110 _ ⟨rfl, rfl⟩
                try simp only [List.cons_append, List.nil_append, List.append_nil]
                refine O.slot 110 (v' := .bool true) rfl (congrArg Value.bool (by first | decide | simp)) ?_
                refine O.op (.g rfl rfl) (.not rfl) ?_
                refine O.op (.p rfl) (.pickF rfl rfl) ?_
                refine O.op (.p rfl) (.mv rfl) ?_
                refine O.op (.g rfl rfl) (.fieldObj Fact.fld45x3 rfl) ?_
                refine O.op (.g rfl rfl) (.loadObj Fact.flat4 rfl (by repeat (first | exact Sel.here | apply Sel.there)) rfl) ?_
                refine O.op (.g rfl rfl) (.fieldObj Fact.fld45x3 rfl) ?_
                refine O.op (.g rfl rfl) (.loadObj Fact.flat4 rfl (by repeat (first | exact Sel.here | apply Sel.there)) rfl) ?_
                refine O.op (.g rfl rfl) (.neqB Go.Proofs.Try.underlying4 rfl rfl) ?_
                refine O.slot 118 (v' := .bool false) rfl (congrArg Value.bool (by first | decide | simp)) ?_
                refine O.op (.p rfl) (.pickF rfl rfl) ?_
                refine O.op (.p rfl) (.mv rfl) ?_
                refine O.op (.g rfl rfl) (.fieldObj Fact.fld45x3 rfl) ?_
                refine O.op (.g rfl rfl) (.loadObj Fact.flat4 rfl (by repeat (first | exact Sel.here | apply Sel.there)) rfl) ?_
                refine O.op (.g rfl rfl) (.mv rfl) ?_
                refine O.op (.g rfl rfl) (.mv rfl) ?_
                refine O.op (.g rfl rfl) (.len rfl Go.Proofs.Try.underlying25 rfl) ?_
                refine O.op (.g rfl rfl) (.eql rfl rfl) ?_
                refine O.op (.g rfl rfl) (.neqB Go.Proofs.Try.underlying4 rfl rfl) ?_
                refine O.slot 127 (v' := .bool false) rfl (congrArg Value.bool (by rw [e]; simp)) ?_
                refine O.op (.p rfl) (.pickF rfl rfl) ?_
                refine O.nil ?_
                refine S.condF rfl ?_
                refine S.skip (S.inBlock (S.region rfl ?_))
                refine O.op (.p rfl) (.mv rfl) ?_
                refine O.op (.p rfl) (.add rfl rfl (IntWalk.i64_in _ (by omega))) ?_
                refine O.op (.p rfl) (.as rfl) ?_
                refine O.nil ?_
                refine S.pk ?_ (S.melt hm1 (S.weaken ?_ (ih (i + 1) (at' + 8 + bs.length) (false) ((v36', rest')) (by exact ⟨by omega, by exact hk36, by dsimp only; omega, by omega, fun _ => by rw [Nat.add_assoc]; exact hd1⟩) (by omega))))
                · repeat (first | exact Picks.all | exact Picks.nil | (apply Picks.cons; focus (repeat (first | exact Sel.here | apply Sel.there))) | apply Picks.skip)
                repeat (first | exact Sub.nil | refine Sub.cons rfl ?_)
              · have hp : ¬ pick asks[i].1 4 = 2 := by assumption
                have hN : askN asks[i].1 bs = 8 := by unfold askN; rw [if_neg hp0, if_neg hp]
                rw [hN] at hk2 hdone hd1
                have e : decide ((!false) = true ∧ rest' = []) = decide (((at' : Int) + 8) = (xs.length : Int)) := by rw [decide_eq_decide, hdone]; simp; omega
                refine S.frzA (by repeat (first | exact Sel.here | apply Sel.there)) fun g hs hm hay => ?_
                replace hg := Fr.sub_trans hg hs
                replace hR := melted hR hm
                try replace hb := hb.mono hs
                try replace ha := ha.mono hs
                try replace ha22 := ha22.mono hs
                try replace hp34 := hp34.mono hs
                try replace ha36' := ha36'.mono hs
                try replace ha36 := ha36.mono hs
                try replace hp71 := hp71.mono hs
                try replace hp76 := hp76.mono hs
                replace hm1 := meltTrans hm1 hm
                clear hs hm
                refine S.region rfl ?_
                refine O.op (.p rfl) (.mv rfl) ?_
                refine O.op (.p rfl) (.add rfl rfl (IntWalk.i64_in _ (by omega))) ?_
                refine O.op (.p rfl) (.as rfl) ?_
                refine O.nil ?_
                refine S.inBlock (S.seq (S.region rfl ?_))
                refine O.op (.p rfl) (.mv rfl) ?_
                refine O.op (.p rfl) (.mv rfl) ?_
                refine O.op (.p rfl) (.len rfl Go.Proofs.Try.underlying25 rfl) ?_
                refine O.op (.p rfl) (.gtr rfl rfl) ?_
                refine O.slot 97 (v' := .bool false) rfl (congrArg Value.bool (by simp; omega)) ?_
                refine O.op (.p rfl) (.mv rfl) ?_
                refine O.op (.g rfl rfl) (.fieldObj Fact.fld45x0 rfl) ?_
                refine O.op (.g rfl rfl) (.loadObj Fact.flat3 rfl (by repeat (first | exact Sel.here | apply Sel.there)) rfl) ?_
                refine O.op (.g rfl rfl) (.fieldObj Fact.fld45x0 rfl) ?_
                refine O.op (.g rfl rfl) (.loadObj Fact.flat3 rfl (by repeat (first | exact Sel.here | apply Sel.there)) rfl) ?_
                refine O.op (.g rfl rfl) (.neq rfl rfl) ?_
                refine O.slot 103 (v' := .bool false) rfl (congrArg Value.bool (by first | decide | simp)) ?_
                refine O.op (.p rfl) (.pickF rfl rfl) ?_
                refine O.op (.p rfl) (.mv rfl) ?_
                refine O.op (.g rfl rfl) (.fieldObj Fact.fld45x1 rfl) ?_
                refine O.op (.g rfl rfl) (.loadObj Fact.flat25 rfl (by repeat (first | exact Sel.here | apply Sel.there)) rfl) ?_
                refine O.op (.g rfl rfl) (.fieldObj Fact.fld45x1 rfl) ?_
                refine O.op (.g rfl rfl) (.loadObj Fact.flat25 rfl (by repeat (first | exact Sel.here | apply Sel.there)) rfl) ?_
                refine O.call0 (.g rfl rfl) rfl Fact.ok21 rfl rfl (SameBytes_c (by first | assumption | exact Arr.mono hg (by assumption) | exact Arr.left (by assumption) | exact Arr.left (Arr.mono hg (by assumption))) (by first | assumption | exact Arr.mono hg (by assumption) | exact Arr.left (by assumption) | exact Arr.left (Arr.mono hg (by assumption)))) ?_
                rintro v110 _ ⟨rfl, rfl⟩
                try simp only [List.cons_append, List.nil_append, List.append_nil]
                refine O.slot 110 (v' := .bool true) rfl (congrArg Value.bool (by first | decide | simp)) ?_
                refine O.op (.g rfl rfl) (.not rfl) ?_
                refine O.op (.p rfl) (.pickF rfl rfl) ?_
                refine O.op (.p rfl) (.mv rfl) ?_
                refine O.op (.g rfl rfl) (.fieldObj Fact.fld45x3 rfl) ?_
                refine O.op (.g rfl rfl) (.loadObj Fact.flat4 rfl (by repeat (first | exact Sel.here | apply Sel.there)) rfl) ?_
                refine O.op (.g rfl rfl) (.fieldObj Fact.fld45x3 rfl) ?_
                refine O.op (.g rfl rfl) (.loadObj Fact.flat4 rfl (by repeat (first | exact Sel.here | apply Sel.there)) rfl) ?_
                refine O.op (.g rfl rfl) (.neqB Go.Proofs.Try.underlying4 rfl rfl) ?_
                refine O.slot 118 (v' := .bool false) rfl (congrArg Value.bool (by first | decide | simp)) ?_
                refine O.op (.p rfl) (.pickF rfl rfl) ?_
                refine O.op (.p rfl) (.mv rfl) ?_
                refine O.op (.g rfl rfl) (.fieldObj Fact.fld45x3 rfl) ?_
                refine O.op (.g rfl rfl) (.loadObj Fact.flat4 rfl (by repeat (first | exact Sel.here | apply Sel.there)) rfl) ?_
                refine O.op (.g rfl rfl) (.mv rfl) ?_
                refine O.op (.g rfl rfl) (.mv rfl) ?_
                refine O.op (.g rfl rfl) (.len rfl Go.Proofs.Try.underlying25 rfl) ?_
                refine O.op (.g rfl rfl) (.eql rfl rfl) ?_
                refine O.op (.g rfl rfl) (.neqB Go.Proofs.Try.underlying4 rfl rfl) ?_
                refine O.slot 127 (v' := .bool false) rfl (congrArg Value.bool (by rw [e]; simp)) ?_
                refine O.op (.p rfl) (.pickF rfl rfl) ?_
                refine O.nil ?_
                refine S.condF rfl ?_
                refine S.skip (S.inBlock (S.region rfl ?_))
                refine O.op (.p rfl) (.mv rfl) ?_
                refine O.op (.p rfl) (.add rfl rfl (IntWalk.i64_in _ (by omega))) ?_
                refine O.op (.p rfl) (.as rfl) ?_
                refine O.nil ?_
                refine S.pk ?_ (S.melt hm1 (S.weaken ?_ (ih (i + 1) (at' + (8)) (false) ((v36', rest')) (by exact ⟨by omega, by exact hk36, by dsimp only; omega, hk2, fun _ => hd1⟩) (by omega))))
                · repeat (first | exact Picks.all | exact Picks.nil | (apply Picks.cons; focus (repeat (first | exact Sel.here | apply Sel.there))) | apply Picks.skip)
                repeat (first | exact Sub.nil | refine Sub.cons rfl ?_)
      · refine S.exit rfl ?_
        refine S.seq (S.region rfl ?_)
        refine O.op (.p rfl) (.as rfl) ?_
        refine O.nil ?_
        refine S.ret Go.Proofs.Try.results5 rfl fun w hw => Holds.end_ hR hw ?_
        exact ⟨_, ⟨rfl, rfl⟩, by repeat (first | exact Picks.all | exact Picks.nil | (apply Picks.cons; focus (repeat (first | exact Sel.here | apply Sel.there))) | apply Picks.skip)⟩

end Go.Proofs.Ytodkpkmhnpmmgaa
