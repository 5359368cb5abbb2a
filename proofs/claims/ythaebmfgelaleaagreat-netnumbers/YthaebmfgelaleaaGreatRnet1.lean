import Derived.Test.YthaebmfgelaleaaGreatNet12
import Derived.Test.YthaebmfgelaleaaGreatKp6
open Go Go.Sp
set_option maxRecDepth 100000
attribute [local irreducible] obj Own OwnP
namespace Go.Proofs.YthaebmfgelaleaaGreat
theorem FactRnet1.flat29 : Go.Sp.flat1 Go.Proofs.Tryz.prog 29 = true := by kernel_rfl
theorem FactRnet1.flat3 : Go.Sp.flat1 Go.Proofs.Tryz.prog 3 = true := by kernel_rfl
theorem FactRnet1.flat33 : Go.Sp.flat1 Go.Proofs.Tryz.prog 33 = true := by kernel_rfl
theorem FactRnet1.fld35x0 : fieldOff Go.Proofs.Tryz.prog 35 0 = some 0 := by kernel_rfl
theorem FactRnet1.fld35x1 : fieldOff Go.Proofs.Tryz.prog 35 1 = some 1 := by kernel_rfl
theorem FactRnet1.fld35x2 : fieldOff Go.Proofs.Tryz.prog 35 2 = some 2 := by kernel_rfl
theorem FactRnet1.fld61x0 : fieldOff Go.Proofs.Tryz.prog 61 0 = some 0 := by kernel_rfl
theorem FactRnet1.ok48 : callable Go.Proofs.Tryz.prog 48 = true := by kernel_rfl
theorem FactRnet1.size35 : (Go.Proofs.Tryz.prog.info? 35).map (·.size) = some 3 := by kernel_rfl

theorem copyPacket_c {r : Fr} {p q : Int} {va : Value} {xs : List UInt8} (ha : Arr Rp.u8 r va xs) (hl : xs.length ≤ 140737488355328) :
    Con Go.Proofs.Tryz.prog 34 #[.agg #[.int .i64 p, .int .i64 q, va]] r [] (Ret fun v η => ∃ a c, v = .agg #[.int .i64 p, .int .i64 q, .slice a xs.length c] ∧ η = [OwnP Rp.u8 5 (.slice a xs.length c) xs]) := by
  refine Con.of (n := 8) [.agg #[.int .i64 p, .int .i64 q, va]] rfl Go.Proofs.Tryz.func34 rfl rfl rfl fun g hg R hR => ?_
  have ha := ha.mono hg
  obtain ⟨a1, c1, rfl⟩ := ha.shape
  refine S.seq (S.region rfl ?_)
  refine O.opE (.p rfl) (.box (cs := [_, _, _]) rfl rfl) ?_
  rintro _ _ ⟨b1, rfl, rfl⟩
  refine O.opE (.p rfl) (.alloc (cs := [.int .i64 0, .int .i64 0, .slice none 0 0]) Go.Proofs.Tryz.zeroValue35 rfl) ?_
  rintro _ _ ⟨b2, rfl, rfl⟩
  refine O.nil ?_
  refine S.seq (S.region rfl ?_)
  refine O.op (.p rfl) (.fieldObj FactRnet1.fld35x2 rfl) ?_
  refine O.op (.p rfl) (.loadObj FactRnet1.flat33 rfl (by repeat (first | exact Sel.here | apply Sel.there)) rfl) ?_
  refine O.call0 (.p rfl) rfl FactRnet1.ok48 rfl rfl (CopyBytes_c (by first | assumption | exact Arr.mono hg (by assumption) | exact Arr.left (by assumption) | exact Arr.left (Arr.mono hg (by assumption))) (by first | omega | (simp; done) | (simp; omega) | decide)) ?_
  rintro v5 _ ⟨a5, c5, rfl, rfl⟩
  try simp only [List.cons_append, List.nil_append, List.append_nil]
  refine O.op (.p rfl) (.fieldObj FactRnet1.fld35x2 rfl) ?_
  refine O.opU rfl (.store1 FactRnet1.flat33 rfl rfl (by first | rfl | assumption) (by repeat (first | exact Sel.here | apply Sel.there)) (by first | (simp; done) | (simp [Value.cells]; done))) ?_
  refine O.nil ?_
  refine S.seq (S.region rfl ?_)
  refine O.op (.p rfl) (.loadObjAgg (news := [_, _, _]) Go.Proofs.Tryz.isAgg35 (by kernel_rfl) rfl (by repeat (first | exact Sel.here | apply Sel.there)) rfl) ?_
  refine O.opU rfl (.storeObj (by kernel_rfl) rfl rfl rfl rfl (by repeat (first | exact Sel.here | apply Sel.there)) (by first | (simp; done) | (simp [Value.cells]; done))) ?_
  refine O.nil ?_
  refine S.retCellAgg Go.Proofs.Tryz.results34 Go.Proofs.Tryz.isAgg35 (by kernel_rfl) rfl (by repeat (first | exact Sel.here | apply Sel.there)) fun w hw => Holds.end_ hR hw ?_
  exact ⟨_, ⟨a5, c5, rfl, rfl⟩, by repeat (first | exact Picks.all | exact Picks.nil | (apply Picks.cons; focus (repeat (first | exact Sel.here | apply Sel.there))) | apply Picks.skip)⟩
/-- the packets of a link, in a row of all -/
def isK (k : Int × Int) (p : Pkt) : Bool := decide (keyP p = k)
def rowAt (row : List Pkt) (k : Int × Int) : List Pkt := row.filter (isK k)
/-- how many of a link lie ahead -/
def ahead (row : List Pkt) (k : Int × Int) (i : Nat) : Nat := ((row.take i).filter (isK k)).length
theorem ahead_succ (row : List Pkt) (k : Int × Int) (i : Nat) (h : i < row.length) : ahead row k (i + 1) = ahead row k i + if keyP row[i] = k then 1 else 0 := by
  unfold ahead
  rw [List.take_succ_eq_append_getElem h, List.filter_append, List.length_append]
  by_cases e : keyP row[i] = k
  · rw [if_pos e]; simp [isK, e]
  · rw [if_neg e]; simp [isK, e]
theorem ahead_all (row : List Pkt) (k : Int × Int) : ahead row k row.length = (rowAt row k).length := by unfold ahead rowAt; rw [List.take_length]
theorem ahead_le (row : List Pkt) (k : Int × Int) (i : Nat) : ahead row k i ≤ row.length := by
  unfold ahead
  have h1 := List.length_filter_le (isK k) (row.take i)
  rw [List.length_take] at h1
  omega
theorem row_split {row : List Pkt} {i : Nat} (h : i < row.length) : row = row.take i ++ row[i] :: row.drop (i + 1) := by
  rw [← List.drop_eq_getElem_cons h, List.take_append_drop]
theorem rowAt_get {row : List Pkt} {k : Int × Int} {i : Nat} (h : i < row.length) (hk : keyP row[i] = k) : (rowAt row k)[ahead row k i]? = some row[i] := by
  have h1 : rowAt row k = (row.take i).filter (isK k) ++ row[i] :: (row.drop (i + 1)).filter (isK k) := by
    unfold rowAt
    conv => lhs; rw [row_split h]
    rw [List.filter_append, List.filter_cons, if_pos (by simp [isK, hk])]
  rw [h1, ahead, List.getElem?_append_right (Nat.le_refl _), Nat.sub_self]; rfl
theorem rowAt_erase {row : List Pkt} {k : Int × Int} {i : Nat} (h : i < row.length) (hk : keyP row[i] = k) : rowAt (row.eraseIdx i) k = (rowAt row k).eraseIdx (ahead row k i) := by
  have h1 : rowAt row k = (row.take i).filter (isK k) ++ row[i] :: (row.drop (i + 1)).filter (isK k) := by
    unfold rowAt
    conv => lhs; rw [row_split h]
    rw [List.filter_append, List.filter_cons, if_pos (by simp [isK, hk])]
  rw [h1, ahead, List.eraseIdx_append_of_length_le (Nat.le_refl _), Nat.sub_self, List.eraseIdx_cons_zero, rowAt, List.eraseIdx_eq_take_drop_succ, List.filter_append]
theorem rowAt_erase_ne {row : List Pkt} {k : Int × Int} {i : Nat} (h : i < row.length) (hk : keyP row[i] ≠ k) : rowAt (row.eraseIdx i) k = rowAt row k := by
  unfold rowAt
  conv => rhs; rw [row_split h]
  rw [List.eraseIdx_eq_take_drop_succ, List.filter_append, List.filter_append, List.filter_cons, if_neg (by simp [isK, hk])]
theorem rowAt_ex {k : Int × Int} {j : Nat} : ∀ (n : Nat) (row : List Pkt), n ≤ row.length → j < ahead row k n → ∃ i, ∃ h : i < row.length, i < n ∧ keyP row[i] = k ∧ ahead row k i = j
  | 0, row, _, h => by simp [ahead] at h
  | n + 1, row, hn, h => by
    have hi : n < row.length := by omega
    rw [ahead_succ row k n hi] at h
    by_cases h2 : j < ahead row k n
    · obtain ⟨i, h3, h4, h5, h6⟩ := rowAt_ex n row (by omega) h2
      exact ⟨i, h3, by omega, h5, h6⟩
    · split at h
      · rename_i e; exact ⟨n, hi, by omega, e, by omega⟩
      · omega
theorem ahead_mono (row : List Pkt) (k : Int × Int) {i j : Nat} (h : i ≤ j) : ahead row k i ≤ ahead row k j := by
  unfold ahead
  have h1 : row.take i = (row.take j).take i := by rw [List.take_take, Nat.min_eq_left h]
  rw [h1]
  exact ((List.take_sublist i (row.take j)).filter _).length_le
/-- the document's net: one row -/
def refW (d : Nat) (row : List Pkt) : SProp := fun m => ∃ s : Option Addr × Nat, Sat [obj d 61 [.slice s.1 row.length s.2], ListP pktG 35 (.slice s.1 row.length s.2) row] m
def refR (h : Fr) (d : Nat) (row : List Pkt) : Prop := ∃ s : Option Addr × Nat, At h ⟨d, 0, none⟩ [.slice s.1 row.length s.2] ∧ Arr PktRp h (.slice s.1 row.length s.2) row
theorem refW.read {d : Nat} {row : List Pkt} {m : Fr} : refW d row m → refR m d row
  | ⟨s, m1, k1, _, s1, t1, y1, m2, k2, _, s2, t2, y2, _⟩ => ⟨s, (obj_at y1).mono s1, (ListP.arr y2).mono (Fr.sub_trans s2 t1)⟩
theorem refR.mono {d : Nat} {row : List Pkt} {h k : Fr} (s : h.sub k) : refR h d row → refR k d row
  | ⟨q, a, b⟩ => ⟨q, a.mono s, b.mono s⟩
section
variable {ro : Option Nat} {P : Program} {fn : Func} {n : Nat} {R : Ending → World → Prop} {σ : List (Nat × Value)} {D : List Deferred} {g : Gr} {η ζ : List SProp} {todo : List Item}
theorem S.refOpen {d : Nat} {row : List Pkt} (s : Sel η (refW d row) ζ) (h : ∀ a c, S ro P fn n R todo σ D g (obj d 61 [.slice a row.length c] :: ListP pktG 35 (.slice a row.length c) row :: ζ)) : S ro P fn n R todo σ D g η :=
  S.sel s (S.exi (A := fun (q : Option Addr × Nat) m => Sat [obj d 61 [.slice q.1 row.length q.2], ListP pktG 35 (.slice q.1 row.length q.2) row] m) fun q => S.entail (fun _ x => x) (h q.1 q.2))
theorem S.refShut {d : Nat} {row : List Pkt} {a : Option Addr} {c : Nat} {ζ' : List SProp} (s : Sel η (obj d 61 [.slice a row.length c]) ζ') (s' : Sel ζ' (ListP pktG 35 (.slice a row.length c) row) ζ) (h : S ro P fn n R todo σ D g (refW d row :: ζ)) : S ro P fn n R todo σ D g η := by
  refine S.imp' (η := η) (ζ := refW d row :: ζ) (fun m x => ?_) h
  have x1 := Sat.perm s.perm x
  have x2 : Sat ([obj d 61 [.slice a row.length c], ListP pktG 35 (.slice a row.length c) row] ++ ζ) m := Sat.cons_imp (fun _ z => z) (fun _ z => Sat.perm s'.perm z) x1
  obtain ⟨m1, m2, d, s1, s2, x, y⟩ := Sat.split x2
  exact ⟨m1, m2, d, s1, s2, ⟨(a, c), x⟩, y⟩
end
theorem rnew_c {r : Fr} : Con Go.Proofs.Tryz.prog 8 #[] r [] (Ret fun u η => ∃ d, u = .pointer (some ⟨d, 0, none⟩) ∧ η = [refW d []]) := by
  refine Con.of (n := 3) [] rfl Go.Proofs.Tryz.func8 rfl rfl rfl fun g hg R hR => ?_
  refine S.seq (S.region rfl ?_)
  refine O.op (.p rfl) (.as rfl) ?_
  refine O.nil ?_
  refine S.seq (S.region rfl ?_)
  refine O.op (.p rfl) (.build (cs := [_]) Go.Proofs.Tryz.underlying61 rfl rfl rfl rfl rfl) ?_
  refine O.opE (.p rfl) (.box (cs := [_]) rfl rfl) ?_
  rintro _ _ ⟨b2, rfl, rfl⟩
  refine O.op (.p rfl) (.as rfl) ?_
  refine O.nil ?_
  refine S.listNil pktG 35 ?_
  refine S.refShut (row := []) (a := none) (c := 0) (by repeat (first | exact Sel.here | apply Sel.there)) (by repeat (first | exact Sel.here | apply Sel.there)) ?_
  refine S.ret Go.Proofs.Tryz.results8 rfl fun w hw => Holds.end_ hR hw ?_
  exact ⟨_, ⟨b2, rfl, rfl⟩, by repeat (first | exact Picks.all | exact Picks.nil | (apply Picks.cons; focus (repeat (first | exact Sel.here | apply Sel.there))) | apply Picks.skip)⟩
/-- the place of a packet of a link -/
def PlaceIs (row : List Pkt) (k : Int × Int) (z v : Int) : Prop := (∃ i, ∃ h : i < row.length, v = (i : Int) ∧ keyP row[i] = k ∧ (ahead row k i : Int) = z) ∨ (v = -1 ∧ ∀ i (h : i < row.length), keyP row[i] = k → (ahead row k i : Int) ≠ z)
theorem noneStep {row : List Pkt} {k : Int × Int} {z : Int} {i : Nat} (h : ∀ j (h : j < row.length), j < i → keyP row[j] = k → (ahead row k j : Int) ≠ z) (hi : i < row.length) (h2 : keyP row[i] = k → (ahead row k i : Int) ≠ z) : ∀ j (h : j < row.length), j < i + 1 → keyP row[j] = k → (ahead row k j : Int) ≠ z := fun j hj hji hjk => by
  rcases Nat.lt_succ_iff_lt_or_eq.1 hji with h3 | h3
  · exact h j hj h3 hjk
  · subst h3; exact h2 hjk
theorem place_c {r : Fr} {d : Nat} {row : List Pkt} {f t z : Int} (hat : refR r d row) : Con Go.Proofs.Tryz.prog 31 #[.pointer (some ⟨d, 0, none⟩), .int .i64 f, .int .i64 t, .int .i64 z] r [] (Ret fun u η => ∃ v, u = .int .i64 v ∧ PlaceIs row (f, t) z v ∧ η = []) := by
  refine Con.of (n := 48) [.pointer (some ⟨d, 0, none⟩), .int .i64 f, .int .i64 t, .int .i64 z] rfl Go.Proofs.Tryz.func31 rfl rfl rfl fun g hg R hR => ?_
  obtain ⟨⟨a0, c0⟩, h0, hrow⟩ := hat
  replace h0 := h0.mono hg
  have hrow := hrow.mono hg
  have hbd := hrow.bound
  refine S.seq (S.region rfl ?_)
  refine O.op (.p rfl) (.as rfl) ?_
  refine O.nil ?_
  refine S.seq (S.region rfl ?_)
  refine O.op (.p rfl) (.as rfl) ?_
  refine O.nil ?_
  refine S.seq (S.seq (S.region rfl ?_))
  refine O.op (.p rfl) (.as rfl) ?_
  refine O.nil ?_
  refine S.block ?_
  refine S.loopK (ι := Nat) (fun i => i ≤ row.length ∧ ∀ j (h : j < row.length), j < i → keyP row[j] = (f, t) → (ahead row (f, t) j : Int) ≠ z) (fun i => [(10, .int .i64 (i : Int)), (9, .int .i64 (ahead row (f, t) i : Int))]) [(0, _), (1, _), (2, _), (3, _)] (fun i => []) (fun i => row.length - i) (0) (by exact ⟨Nat.zero_le _, fun j _ h => absurd h (Nat.not_lt_zero _)⟩) (.cons rfl (.cons rfl (.nil))) (.cons rfl (.cons rfl (.cons rfl (.cons rfl (.nil))))) rfl fun i hx ih => ?_
  have hm1 := meltRefl (g := g)
  obtain ⟨hx1, hx2⟩ := hx
  have hal := ahead_le row (f, t) i
  have hal2 := ahead_le row (f, t) (i + 1)
  refine S.seq (S.seq (S.region rfl ?_))
  refine O.op (.p rfl) (.mv rfl) ?_
  refine O.op (.p rfl) (.mv rfl) ?_
  refine O.op (.p rfl) (.nilCheck rfl) ?_
  refine O.op (.p rfl) (.fieldAddr FactRnet1.fld61x0 rfl) ?_
  refine O.op (.p rfl) (.loadAt FactRnet1.flat29 rfl h0 rfl) ?_
  refine O.op (.p rfl) (.len rfl Go.Proofs.Tryz.underlying29 rfl) ?_
  refine O.op (.p rfl) (.lss rfl rfl) ?_
  refine O.nil ?_
  first | refine S.condD rfl (fun h17 => ?_) (fun h17 => ?_) | refine S.condB rfl (fun h17 => ?_) (fun h17 => ?_)
  · have hi : i < row.length := by omega
    have hsc := ahead_succ row (f, t) i hi
    by_cases hk : keyP row[i] = (f, t)
    · have e1 : row[i].1 = f := congrArg Prod.fst hk
      have e2 : row[i].2.1 = t := congrArg Prod.snd hk
      rw [if_pos hk] at hsc
      refine S.skip (S.seq (S.block (S.seq (S.seq (S.region rfl ?_)))))
      refine O.op (.p rfl) (.mv rfl) ?_
      refine O.op (.p rfl) (.nilCheck rfl) ?_
      refine O.op (.p rfl) (.fieldAddr FactRnet1.fld61x0 rfl) ?_
      refine O.op (.p rfl) (.loadAt FactRnet1.flat29 rfl h0 rfl) ?_
      refine O.op (.p rfl) (.mv rfl) ?_
      refine O.idx' (.p rfl) Go.Proofs.Tryz.underlying29 FactRnet1.size35 rfl rfl rfl (by first | assumption | exact Arr.mono hg (by assumption) | exact Arr.left (by assumption) | exact Arr.left (Arr.mono hg (by assumption))) (by decide) (by first | omega | (simp; done) | (simp; omega) | decide) (fun p25 cs25 hp25 hr25 => ?_)
      obtain ⟨v25, rfl, hi25, hj25, ha25⟩ := PktRp.open hr25; obtain ⟨a25, c25, rfl⟩ := ha25.shape
      refine O.op (.p rfl) (.fieldAddr FactRnet1.fld35x0 rfl) ?_
      refine O.op (.p rfl) (.loadAt FactRnet1.flat3 rfl hp25 rfl) ?_
      refine O.op (.p rfl) (.mv rfl) ?_
      refine O.op (.p rfl) (.neq rfl rfl) ?_
      refine O.slot 29 (v' := .bool false) rfl (congrArg Value.bool (by simp [e1])) ?_
      refine O.op (.p rfl) (.mv rfl) ?_
      refine O.op (.g rfl rfl) (.mv rfl) ?_
      refine O.op (.g rfl rfl) (.nilCheck rfl) ?_
      refine O.op (.g rfl rfl) (.fieldAddr FactRnet1.fld61x0 rfl) ?_
      refine O.op (.g rfl rfl) (.loadAt FactRnet1.flat29 rfl h0 rfl) ?_
      refine O.op (.g rfl rfl) (.mv rfl) ?_
      refine O.idx' (.g rfl rfl) Go.Proofs.Tryz.underlying29 FactRnet1.size35 rfl rfl rfl (by first | assumption | exact Arr.mono hg (by assumption) | exact Arr.left (by assumption) | exact Arr.left (Arr.mono hg (by assumption))) (by decide) (by first | omega | (simp; done) | (simp; omega) | decide) (fun p36 cs36 hp36 hr36 => ?_)
      obtain ⟨v36, rfl, hi36, hj36, ha36⟩ := PktRp.open hr36; obtain ⟨a36, c36, rfl⟩ := ha36.shape
      refine O.op (.g rfl rfl) (.fieldAddr FactRnet1.fld35x1 rfl) ?_
      refine O.op (.g rfl rfl) (.loadAt FactRnet1.flat3 rfl (hp36.drop 1) rfl) ?_
      refine O.op (.g rfl rfl) (.mv rfl) ?_
      refine O.op (.g rfl rfl) (.neq rfl rfl) ?_
      refine O.slot 40 (v' := .bool false) rfl (congrArg Value.bool (by simp [e2])) ?_
      refine O.op (.p rfl) (.pickF rfl rfl) ?_
      refine O.nil ?_
      refine S.condF rfl ?_
      refine S.skip (S.seq (S.seq (S.region rfl ?_)))
      refine O.op (.p rfl) (.mv rfl) ?_
      refine O.op (.p rfl) (.mv rfl) ?_
      refine O.op (.p rfl) (.eql rfl rfl) ?_
      refine O.nil ?_
      first | refine S.condD rfl (fun h44 => ?_) (fun h44 => ?_) | refine S.condB rfl (fun h44 => ?_) (fun h44 => ?_)
      · refine S.seq (S.region rfl ?_)
        refine O.op (.p rfl) (.mv rfl) ?_
        refine O.op (.p rfl) (.as rfl) ?_
        refine O.nil ?_
        refine S.ret Go.Proofs.Tryz.results31 rfl fun w hw => Holds.end_ hR hw ?_
        exact ⟨_, ⟨_, rfl, .inl ⟨i, hi, rfl, hk, by omega⟩, rfl⟩, by repeat (first | exact Picks.all | exact Picks.nil | (apply Picks.cons; focus (repeat (first | exact Sel.here | apply Sel.there))) | apply Picks.skip)⟩
      · refine S.skip (S.region rfl ?_)
        refine O.op (.p rfl) (.mv rfl) ?_
        refine O.op (.p rfl) (.add rfl rfl (IntWalk.i64_in _ (by omega))) ?_
        refine O.op (.p rfl) (.as rfl) ?_
        refine O.nil ?_
        refine S.inBlock (S.region rfl ?_)
        refine O.op (.p rfl) (.mv rfl) ?_
        refine O.op (.p rfl) (.add rfl rfl (IntWalk.i64_in _ (by omega))) ?_
        refine O.op (.p rfl) (.as rfl) ?_
        refine O.nil ?_
        refine S.slot 9 (v' := .int .i64 (ahead row (f, t) (i + 1) : Int)) rfl (by exact congrArg _ (by omega)) ?_
        refine S.weaken ?_ (ih (i + 1) (by exact ⟨by omega, noneStep hx2 hi fun _ => by omega⟩) (by omega))
        repeat (first | exact Sub.nil | refine Sub.cons rfl ?_)
    · rw [if_neg hk] at hsc
      have hb : ∀ b1 b2 : Bool, b1 = decide (¬ row[i].1 = f) → b2 = decide (¬ row[i].2.1 = t) → (b1 = true ∨ b2 = true) := fun b1 b2 h1 h2 => by
        subst h1; subst h2
        by_cases e1 : row[i].1 = f
        · by_cases e2 : row[i].2.1 = t
          · exact absurd (Prod.ext e1 e2) hk
          · exact .inr (decide_eq_true e2)
        · exact .inl (decide_eq_true e1)
      by_cases e1 : row[i].1 = f
      · have e2 : ¬ row[i].2.1 = t := fun e2 => hk (Prod.ext e1 e2)
        refine S.skip (S.seq (S.block (S.seq (S.seq (S.region rfl ?_)))))
        refine O.op (.p rfl) (.mv rfl) ?_
        refine O.op (.p rfl) (.nilCheck rfl) ?_
        refine O.op (.p rfl) (.fieldAddr FactRnet1.fld61x0 rfl) ?_
        refine O.op (.p rfl) (.loadAt FactRnet1.flat29 rfl h0 rfl) ?_
        refine O.op (.p rfl) (.mv rfl) ?_
        refine O.idx' (.p rfl) Go.Proofs.Tryz.underlying29 FactRnet1.size35 rfl rfl rfl (by first | assumption | exact Arr.mono hg (by assumption) | exact Arr.left (by assumption) | exact Arr.left (Arr.mono hg (by assumption))) (by decide) (by first | omega | (simp; done) | (simp; omega) | decide) (fun p25 cs25 hp25 hr25 => ?_)
        obtain ⟨v25, rfl, hi25, hj25, ha25⟩ := PktRp.open hr25; obtain ⟨a25, c25, rfl⟩ := ha25.shape
        refine O.op (.p rfl) (.fieldAddr FactRnet1.fld35x0 rfl) ?_
        refine O.op (.p rfl) (.loadAt FactRnet1.flat3 rfl hp25 rfl) ?_
        refine O.op (.p rfl) (.mv rfl) ?_
        refine O.op (.p rfl) (.neq rfl rfl) ?_
        refine O.slot 29 (v' := .bool false) rfl (congrArg Value.bool (by simp [e1])) ?_
        refine O.op (.p rfl) (.mv rfl) ?_
        refine O.op (.g rfl rfl) (.mv rfl) ?_
        refine O.op (.g rfl rfl) (.nilCheck rfl) ?_
        refine O.op (.g rfl rfl) (.fieldAddr FactRnet1.fld61x0 rfl) ?_
        refine O.op (.g rfl rfl) (.loadAt FactRnet1.flat29 rfl h0 rfl) ?_
        refine O.op (.g rfl rfl) (.mv rfl) ?_
        refine O.idx' (.g rfl rfl) Go.Proofs.Tryz.underlying29 FactRnet1.size35 rfl rfl rfl (by first | assumption | exact Arr.mono hg (by assumption) | exact Arr.left (by assumption) | exact Arr.left (Arr.mono hg (by assumption))) (by decide) (by first | omega | (simp; done) | (simp; omega) | decide) (fun p36 cs36 hp36 hr36 => ?_)
        obtain ⟨v36, rfl, hi36, hj36, ha36⟩ := PktRp.open hr36; obtain ⟨a36, c36, rfl⟩ := ha36.shape
        refine O.op (.g rfl rfl) (.fieldAddr FactRnet1.fld35x1 rfl) ?_
        refine O.op (.g rfl rfl) (.loadAt FactRnet1.flat3 rfl (hp36.drop 1) rfl) ?_
        refine O.op (.g rfl rfl) (.mv rfl) ?_
        refine O.op (.g rfl rfl) (.neq rfl rfl) ?_
        refine O.slot 40 (v' := .bool true) rfl (congrArg Value.bool (by simp [e2])) ?_
        refine O.op (.p rfl) (.pickF rfl rfl) ?_
        refine O.nil ?_
        refine S.condT rfl ?_
        refine S.exit rfl ?_
        refine S.region rfl ?_
        refine O.op (.p rfl) (.mv rfl) ?_
        refine O.op (.p rfl) (.add rfl rfl (IntWalk.i64_in _ (by omega))) ?_
        refine O.op (.p rfl) (.as rfl) ?_
        refine O.nil ?_
        refine S.slot 9 (v' := .int .i64 (ahead row (f, t) (i + 1) : Int)) rfl (by exact congrArg _ (by omega)) ?_
        refine S.weaken ?_ (ih (i + 1) (by exact ⟨by omega, noneStep hx2 hi fun q => absurd q hk⟩) (by omega))
        repeat (first | exact Sub.nil | refine Sub.cons rfl ?_)
      ·
        refine S.skip (S.seq (S.block (S.seq (S.seq (S.region rfl ?_)))))
        refine O.op (.p rfl) (.mv rfl) ?_
        refine O.op (.p rfl) (.nilCheck rfl) ?_
        refine O.op (.p rfl) (.fieldAddr FactRnet1.fld61x0 rfl) ?_
        refine O.op (.p rfl) (.loadAt FactRnet1.flat29 rfl h0 rfl) ?_
        refine O.op (.p rfl) (.mv rfl) ?_
        refine O.idx' (.p rfl) Go.Proofs.Tryz.underlying29 FactRnet1.size35 rfl rfl rfl (by first | assumption | exact Arr.mono hg (by assumption) | exact Arr.left (by assumption) | exact Arr.left (Arr.mono hg (by assumption))) (by decide) (by first | omega | (simp; done) | (simp; omega) | decide) (fun p25 cs25 hp25 hr25 => ?_)
        obtain ⟨v25, rfl, hi25, hj25, ha25⟩ := PktRp.open hr25; obtain ⟨a25, c25, rfl⟩ := ha25.shape
        refine O.op (.p rfl) (.fieldAddr FactRnet1.fld35x0 rfl) ?_
        refine O.op (.p rfl) (.loadAt FactRnet1.flat3 rfl hp25 rfl) ?_
        refine O.op (.p rfl) (.mv rfl) ?_
        refine O.op (.p rfl) (.neq rfl rfl) ?_
        refine O.slot 29 (v' := .bool true) rfl (congrArg Value.bool (by simp [e1])) ?_
        refine O.op (.p rfl) (.mv rfl) ?_
        refine O.opN rfl rfl rfl ?_
        refine O.opN rfl rfl rfl ?_
        refine O.opN rfl rfl rfl ?_
        refine O.opN rfl rfl rfl ?_
        refine O.opN rfl rfl rfl ?_
        refine O.opN rfl rfl rfl ?_
        refine O.opN rfl rfl rfl ?_
        refine O.opN rfl rfl rfl ?_
        refine O.opN rfl rfl rfl ?_
        refine O.opN rfl rfl rfl ?_
        refine O.op (.p rfl) (.pickT rfl rfl) ?_
        refine O.nil ?_
        refine S.condT rfl ?_
        refine S.exit rfl ?_
        refine S.region rfl ?_
        refine O.op (.p rfl) (.mv rfl) ?_
        refine O.op (.p rfl) (.add rfl rfl (IntWalk.i64_in _ (by omega))) ?_
        refine O.op (.p rfl) (.as rfl) ?_
        refine O.nil ?_
        refine S.slot 9 (v' := .int .i64 (ahead row (f, t) (i + 1) : Int)) rfl (by exact congrArg _ (by omega)) ?_
        refine S.weaken ?_ (ih (i + 1) (by exact ⟨by omega, noneStep hx2 hi fun q => absurd q hk⟩) (by omega))
        repeat (first | exact Sub.nil | refine Sub.cons rfl ?_)
  · clear ih
    have hi : i = row.length := by omega
    subst hi
    refine S.exit rfl ?_
    refine S.seq (S.region rfl ?_)
    refine O.op (.p rfl) (.as rfl) ?_
    refine O.nil ?_
    refine S.ret Go.Proofs.Tryz.results31 rfl fun w hw => Holds.end_ hR hw ?_
    exact ⟨_, ⟨_, rfl, .inr ⟨rfl, fun j hj hjk => hx2 j hj hj hjk⟩, rfl⟩, by repeat (first | exact Picks.all | exact Picks.nil | (apply Picks.cons; focus (repeat (first | exact Sel.here | apply Sel.there))) | apply Picks.skip)⟩

end Go.Proofs.YthaebmfgelaleaaGreat
