import Derived.Test.YtodhbhanmdfdeaaSpOps
namespace Go.Sp

/-- a type of one cell, no struct, no array -/
def flat1 (P : Program) (t : TypeId) : Bool := flat P t && ((P.info? t).map (·.size) == some 1)
theorem flat1_flat {P : Program} {t : TypeId} (h : flat1 P t = true) : flat P t = true := by unfold flat1 at h; simp at h; exact h.1
theorem run_sizeOf {P : Program} {t : TypeId} {m : Nat} (h : (P.info? t).map (·.size) = some m) (w : World) : (sizeOf t).run P w = .ok m w := by
  cases hi : P.info? t with
  | none => rw [hi] at h; cases h
  | some i => rw [hi] at h; simp at h; simp [sizeOf, typeInfo, hi, h]
theorem flat1_size {P : Program} {t : TypeId} (h : flat1 P t = true) (w : World) : (sizeOf t).run P w = .ok 1 w := run_sizeOf (by unfold flat1 at h; simp at h; simpa using h.2) w

/-- the cells from an address on -/
def At (h : Fr) (p : Addr) (cs : List Value) : Prop := ∀ j (hj : j < cs.length), h.cell (p.add j) = some cs[j]
theorem At.mono {h k : Fr} {p : Addr} {cs : List Value} (s : h.sub k) (x : At h p cs) : At k p cs := fun j hj => Fr.cell_mono s (x j hj)
theorem Addr.add_add (a : Addr) (i j : Nat) : (a.add i).add j = a.add (i + j) := by
  unfold Addr.add
  by_cases hi : i = 0
  · subst hi; simp
  · by_cases hj : j = 0
    · subst hj; simp
    · have : i + j ≠ 0 := by omega
      simp [hi, hj, Nat.add_assoc]
theorem Addr.add_zero (a : Addr) : a.add 0 = a := by simp [Addr.add]
theorem At.drop {h : Fr} {p : Addr} {cs : List Value} (x : At h p cs) (i : Nat) : At h (p.add i) (cs.drop i) := fun j hj => by
  rw [Addr.add_add, x (i + j) (by simp at hj; omega)]; simp
theorem At.take {h : Fr} {p : Addr} {cs : List Value} (x : At h p cs) (i : Nat) : At h p (cs.take i) := fun j hj => by
  rw [x j (by simp at hj; omega)]; simp
theorem At.at {h : Fr} {p : Addr} {cs : List Value} (x : At h p cs) {j : Nat} {v : Value} (hv : cs[j]? = some v) : h.cell (p.add j) = some v := by
  obtain ⟨hj, rfl⟩ := List.getElem?_eq_some_iff.1 hv
  exact x j hj
theorem At.head {h : Fr} {p : Addr} {v : Value} {cs : List Value} (x : At h p (v :: cs)) : h.cell p = some v := by
  have := x 0 (by simp); simpa [Addr.add_zero] using this

/-- a slice that reads: m elements of k cells -/
def Sl (h : Fr) (v : Value) (k m : Nat) (cs : List Value) : Prop :=
  ∃ a cap, v = .slice a m cap ∧ m ≤ cap ∧ (cap ≤ 9223372036854775807 ∧ (a = none → cap = 0)) ∧ cs.length = m * k ∧ ∀ j (hj : j < cs.length), ∃ p, a = some p ∧ h.cell (p.add j) = some cs[j]
theorem Sl.mono {h h' : Fr} {v : Value} {k m : Nat} {cs : List Value} (s : h.sub h') : Sl h v k m cs → Sl h' v k m cs
  | ⟨a, cap, h1, h2, h3, h4, h5⟩ => ⟨a, cap, h1, h2, h3, h4, fun j hj => let ⟨p, x, y⟩ := h5 j hj; ⟨p, x, Fr.cell_mono s y⟩⟩
theorem Sl.len {h : Fr} {v : Value} {k m : Nat} {cs : List Value} : Sl h v k m cs → cs.length = m * k
  | ⟨_, _, _, _, _, h4, _⟩ => h4
theorem Sl.bound {h : Fr} {v : Value} {k m : Nat} {cs : List Value} : Sl h v k m cs → m ≤ 9223372036854775807
  | ⟨_, _, _, h1, h2, _, _⟩ => Nat.le_trans h1 h2.1

/-- a block of cells of one's own, from its beginning -/
def obj (b : Nat) (T : TypeId) (cs : List Value) : SProp := blk b (.cells cs.toArray T (0, 0))
/-- none of so many cells is frozen -/
def Thawed (fz : Nat × Nat) (n : Nat) : Prop := ∀ j, j < n → ¬(fz.1 ≤ j ∧ j < fz.2)
theorem thawed0 (n : Nat) : Thawed (0, 0) n := fun j _ h => Nat.not_lt_zero j h.2
/-- a slice over a block of its own -/
def Own (v : Value) (k : Nat) (T : TypeId) (m : Nat) (cs : List Value) : SProp := fun h =>
  cs.length = m * k ∧ ((v = .slice none 0 0 ∧ m = 0) ∨
    ∃ b cap cur, v = .slice (some ⟨b, 0, none⟩) m cap ∧ (∃ fz, h b = some (.cells cur T fz) ∧ Thawed fz (cap * k)) ∧ m ≤ cap ∧ cap ≤ 9223372036854775807 ∧ cur.size = cap * k ∧ cur.toList.take (m * k) = cs)

theorem Own.sl {h : Fr} {v : Value} {k m : Nat} {T : TypeId} {cs : List Value} : Own v k T m cs h → Sl h v k m cs
  | ⟨hl, .inl ⟨hv, hm⟩⟩ => by subst hv hm; exact ⟨none, 0, rfl, Nat.le_refl _, ⟨by omega, fun _ => rfl⟩, hl, fun j hj => by omega⟩
  | ⟨hl, .inr ⟨b, cap, cur, hv, ⟨fz, hb, _⟩, h1, h2, h3, h4⟩⟩ => by
    subst hv
    refine ⟨_, cap, rfl, h1, ⟨h2, fun h => by cases h⟩, hl, fun j hj => ⟨_, rfl, ?_⟩⟩
    have hj' : j < m * k := by omega
    have : (⟨b, 0, none⟩ : Addr).add j = ⟨b, j, none⟩ := by
      unfold Addr.add; split
      · rename_i hz; subst hz; rfl
      · simp
    rw [this]
    simp only [Fr.cell, hb]
    subst h4
    simp only [Option.isSome_none, Bool.false_eq_true, if_false, List.getElem_take]
    have : j < cur.size := by
      have := List.length_take_le (m * k) cur.toList
      simp at hj; omega
    simp [this]
theorem Own.mono {h h' : Fr} {v : Value} {k m : Nat} {T : TypeId} {cs : List Value} (s : h.sub h') : Own v k T m cs h → Own v k T m cs h'
  | ⟨hl, .inl x⟩ => ⟨hl, .inl x⟩
  | ⟨hl, .inr ⟨b, cap, cur, hv, ⟨fz, hb, hz⟩, r⟩⟩ => ⟨hl, .inr ⟨b, cap, cur, hv, ⟨fz, s _ _ hb, hz⟩, r⟩⟩

section
variable {ro : Option Nat} {P : Program} {σ : List (Nat × Value)} {g : Gr} {η ζ : List SProp}

theorem Does.load {t : TypeId} {x : Operand} {p : Addr} {v : Value} (ht : flat1 P t = true) (hx : ev σ x = some (.pointer (some p))) (hp : g.h.cell p = some v) : Does P (.load t x) σ g η v η :=
  fun o ρ w ho hk hw => ⟨w, by
    have hc : w.cell? p = some v := Fr.cell_mono hw.ground hp
    simp [execOp, ho, hk x _ hx, Instr.loadAt, Instr.sureAddr, loadVar, run_isAgg_flat (flat1_flat ht), hc], hw⟩
/-- a struct or an array, whole -/
theorem Does.loadAgg {t : TypeId} {x : Operand} {p : Addr} {cs : List Value} (ht : ∀ w, (isAgg t).run P w = .ok true w) (hs : (P.info? t).map (·.size) = some cs.length)
    (hx : ev σ x = some (.pointer (some p))) (hp : At g.h p cs) : Does P (.load t x) σ g η (.agg cs.toArray) η :=
  fun o ρ w ho hk hw => ⟨w, by
    have hr := run_loadCells_list (P := P) w p cs fun j v hj => Fr.cell_mono hw.ground (hp.at hj)
    simp [execOp, ho, hk x _ hx, Instr.loadAt, Instr.sureAddr, loadVar, ht, run_sizeOf hs, hr], hw⟩
theorem Holds.obj_cell {w : World} {b : Nat} {T : TypeId} {cs : List Value} (h : Holds w g (obj b T cs :: η)) {j : Nat} {v : Value} (hj : cs[j]? = some v) : w.cell? ⟨b, j, none⟩ = some v := by
  have := h.block
  simp [World.cell?, this, hj]
theorem Does.loadObj {t T : TypeId} {x : Operand} {b j : Nat} {cs : List Value} {v : Value} (ht : flat1 P t = true) (hx : ev σ x = some (.pointer (some ⟨b, j, none⟩))) (hs : Sel η (obj b T cs) ζ) (hj : cs[j]? = some v) :
    Does P (.load t x) σ g η v η :=
  fun o ρ w ho hk hw => ⟨w, by
    have hc : w.cell? ⟨b, j, none⟩ = some v := (hw.sel hs).obj_cell hj
    simp [execOp, ho, hk x _ hx, Instr.loadAt, Instr.sureAddr, loadVar, run_isAgg_flat (flat1_flat ht), hc], hw⟩
theorem add_lit (b i j : Nat) : (⟨b, i, none⟩ : Addr).add j = ⟨b, i + j, none⟩ := by
  unfold Addr.add; split
  · rename_i hz; subst hz; rfl
  · rfl
theorem Does.loadObjAgg {t T : TypeId} {x : Operand} {b i : Nat} {cs news : List Value} (ht : ∀ w, (isAgg t).run P w = .ok true w) (hsz : (P.info? t).map (·.size) = some news.length)
    (hx : ev σ x = some (.pointer (some ⟨b, i, none⟩))) (hs : Sel η (obj b T cs) ζ) (hn : (cs.drop i).take news.length = news) : Does P (.load t x) σ g η (.agg news.toArray) η :=
  fun o ρ w ho hk hw => ⟨w, by
    have hr := run_loadCells_list (P := P) w ⟨b, i, none⟩ news fun j v hj => by
      rw [add_lit]
      refine (hw.sel hs).obj_cell ?_
      have hjl : j < news.length := (List.getElem?_eq_some_iff.1 hj).1
      rw [← hn, List.getElem?_take_of_lt hjl, List.getElem?_drop] at hj
      exact hj
    simp [execOp, ho, hk x _ hx, Instr.loadAt, Instr.sureAddr, loadVar, ht, run_sizeOf hsz, hr], hw⟩

/-- the place of a field, if it has cells -/
def fieldOff (P : Program) (s f : Nat) : Option Nat :=
  match P.underlying s with
  | some (.struct fs) =>
    match fs[f]? with
    | some fd => match (P.info? fd.type).map (·.size) with | some (_ + 1) => some fd.offset | _ => none
    | none => none
  | _ => none
theorem run_fieldAt {s f off : Nat} (h : fieldOff P s f = some off) (a : Addr) (w : World) : (Instr.fieldAt s (.pointer (some a)) f).run P w = .ok (.pointer (some (a.add off))) w := by
  unfold fieldOff at h
  split at h
  · rename_i fs hu
    split at h
    · rename_i fd hf
      split at h
      · rename_i m hm
        cases h
        simp [Instr.fieldAt, run_underlying hu, hf, Instr.sureAddr, fieldPlace, run_sizeOf hm]
      · cases h
    · cases h
  · cases h
theorem Does.fieldAddr {s f off : Nat} {x : Operand} {a : Addr} (h : fieldOff P s f = some off) (hx : ev σ x = some (.pointer (some a))) : Does P (.fieldAddr s x f) σ g η (.pointer (some (a.add off))) η :=
  .run fun o ρ w ho hk => by simp [execOp, ho, hk x _ hx, run_fieldAt h]
/-- of a block of one's own -/
theorem Does.fieldObj {s f off b i : Nat} {x : Operand} (h : fieldOff P s f = some off) (hx : ev σ x = some (.pointer (some ⟨b, i, none⟩))) : Does P (.fieldAddr s x f) σ g η (.pointer (some ⟨b, i + off, none⟩)) η := by
  have := Does.fieldAddr (g := g) (η := η) h hx; rwa [add_lit] at this

/-- an element's place in a slice that reads -/
theorem O.idx {fn : Func} {n : Nat} {R : Ending → World → Prop} {K : List Item} {D : List Deferred} {ops : Array Oper} {i d : Nat} {l : List Nat} {t e : TypeId} {x y : Operand} {v : Value} {k m : Nat} {cs : List Value} {kd : IntKind} {j : Int}
    (ho : Fires ops i n σ d (.indexAddr t x y)) (ht : P.underlying t = some (.slice e)) (he : (P.info? e).map (·.size) = some k) (hx : ev σ x = some v) (hy : ev σ y = some (.int kd j)) (hs : Sl g.h v k m cs) (hk0 : 0 < k) (h0 : 0 ≤ j) (hm : j < m)
    (h : ∀ p, At g.h p ((cs.drop (j.toNat * k)).take k) → O ro P fn n R ops l K ((d, .pointer (some p)) :: σ) D g η) : O ro P fn n R ops (i :: l) K σ D g η := by
  obtain ⟨a, cap, rfl, h1, h2, h3, h4⟩ := hs
  have hjm : j.toNat < m := by omega
  cases a with
  | none =>
    have : 0 < cs.length := by rw [h3]; exact Nat.mul_pos (by omega) hk0
    obtain ⟨p, hp, _⟩ := h4 0 this
    cases hp
  | some a =>
    refine O.op ho (v := .pointer (some (a.add (j.toNat * k)))) ?_ (h _ ?_)
    · refine .run fun o ρ w ho hk => ?_
      have hij : 0 ≤ j ∧ j < (m : Int) := ⟨h0, hm⟩
      simp [execOp, ho, hk x _ hx, hk y _ hy, Instr.indexAt, asIntOf, run_underlying ht, hij, run_sizeOf he]
    · intro q hq
      rw [Addr.add_add]
      have hq' : j.toNat * k + q < cs.length := by simp at hq; omega
      obtain ⟨p, hp, hc⟩ := h4 _ hq'
      cases hp
      rw [hc]; simp

/-- an operation yields some value of which K tells -/
def DoesE (P : Program) (op : Op) (σ : List (Nat × Value)) (g : Gr) (η : List SProp) (K : Value → List SProp → Prop) : Prop :=
  ∀ (o : Oper) (ρ : Operand → Value) (w : World), o.op = op → Knows σ ρ → Holds w g η → ∃ v w' η', K v η' ∧ (execOp ρ o).run P w = .ok (.value v) w' ∧ Holds w' g η'
theorem O.opE {ro : Option Nat} {fn : Func} {n : Nat} {R : Ending → World → Prop} {k : List Item} {D : List Deferred} {ops : Array Oper} {i d : Nat} {l : List Nat} {op : Op} {K : Value → List SProp → Prop}
    (ho : Fires ops i n σ d op) (hdo : DoesE P op σ g η K) (h : ∀ v η', K v η' → O ro P fn n R ops l k ((d, v) :: σ) D g η') : O ro P fn n R ops (i :: l) k σ D g η := by
  intro a w hf hd hw
  obtain ⟨o, hi, hdst, hop, hg, hb⟩ := ho.spec
  obtain ⟨v, w', η', hk, hrun, hw'⟩ := hdo o a.eval w hop hf.knows hw
  refine O.fire hi (hg a hf) (notDefer_value hrun) hrun ?_
  rw [Oper.uponIn_value, hdst]
  exact h v η' hk _ _ (hf.put hb) hd hw'

theorem Holds.allocObj {w : World} (h : Holds w g η) (T : TypeId) (cs : Array Value) : Holds (w.alloc (.cells cs T)) g (obj w.heap.size T cs.toList :: η) := by
  have := h.alloc (.cells cs T)
  simpa [obj] using this
/-- a new variable -/
theorem DoesE.alloc {T : TypeId} {z : Value} {cs : List Value} (hz : ∀ w, (zeroValue T).run P w = .ok z w) (hc : z.cells.toList = cs) : DoesE P (.alloc T) σ g η fun v η' => ∃ b, v = .pointer (some ⟨b, 0, none⟩) ∧ η' = obj b T cs :: η :=
  fun o ρ w ho _ hw => by subst hc; exact ⟨_, _, _, ⟨w.heap.size, rfl, rfl⟩, by simp [execOp, ho, Instr.alloc, hz, newVar, newRow], hw.allocObj T z.cells⟩
theorem DoesE.box {T : TypeId} {x : Operand} {v : Value} {cs : List Value} (hx : ev σ x = some v) (hc : v.cells.toList = cs) : DoesE P (.box T x) σ g η fun p η' => ∃ b, p = .pointer (some ⟨b, 0, none⟩) ∧ η' = obj b T cs :: η :=
  fun o ρ w ho hk hw => by subst hc; exact ⟨_, _, _, ⟨w.heap.size, rfl, rfl⟩, by simp [execOp, ho, Instr.box, hk x _ hx, newVar, newRow], hw.allocObj T v.cells⟩

theorem Holds.setRow {w : World} {b : Nat} {T : TypeId} {cur cs : Array Value} {fz : Nat × Nat} (h : Holds w g (blk b (.cells cur T fz) :: η)) : Holds (w.setRow b cs) g (blk b (.cells cs T fz) :: η) :=
  h.setBlock (setRow_heap w b _ cs T fz h.block) (fun i hi => setRow_other w b i cs hi) rfl rfl rfl
/-- cells that are written, in a block of which they are not frozen -/
theorem run_storeCells_z (P : Program) (g o : Nat) (t : TypeId) {fz : Nat × Nat} {n : Nat} (hz : Thawed fz n) : ∀ (vs : List Value) (i : Nat) (cur : Array Value) (w : World), w.heap[g]? = some (.cells cur t fz) → cur.size ≤ n → o + i + vs.length ≤ cur.size → (∀ v ∈ vs, v.oneCell' = true) →
    (storeCells ⟨g, o, none⟩ vs i).run P w = .ok () (w.setRow g (cur.toList.take (o + i) ++ vs ++ cur.toList.drop (o + i + vs.length)).toArray)
  | [], i, cur, w, hg, _, _, _ => by
    simp only [storeCells, List.append_nil, List.length_nil, Nat.add_zero, List.take_append_drop, Array.toArray_toList]
    rw [setRow_self w g cur t fz hg]
    rfl
  | v :: rest, i, cur, w, hg, hn, hl, h1 => by
    have hi : o + i < cur.size := by simp at hl; omega
    have hadd : (⟨g, o, none⟩ : Addr).add i = ⟨g, o + i, none⟩ := by unfold Addr.add; split <;> simp_all
    have hcell : w.cell? ⟨g, o + i, none⟩ = some cur[o + i] := by simp [World.cell?, hg, hi]
    have hfro : w.frozen? ⟨g, o + i, none⟩ = false := by
      have := hz (o + i) (by omega)
      simp only [World.frozen?, hg]
      simpa using this
    have hst : (store ((⟨g, o, none⟩ : Addr).add i) v).run P w = .ok () (w.setRow g (cur.setIfInBounds (o + i) v)) := by
      rw [hadd, run_store P w _ v _ (h1 v (by simp)), hcell]
      simp [hfro, setCell_eq_setRow w g (o + i) cur t fz v hg]
    have ih := run_storeCells_z P g o t hz rest (i + 1) (cur.setIfInBounds (o + i) v) (w.setRow g (cur.setIfInBounds (o + i) v)) (setRow_heap w g cur _ t _ hg) (by simpa using hn) (by simp at hl ⊢; omega) (fun x hx => h1 x (by simp [hx]))
    simp only [storeCells, Sem.run_bind, hst, Result.andThen_ok, ih, setRow_setRow]
    congr 3
    have e := list_seg_step cur.toList (o + i) v rest (by simp at hl ⊢; omega)
    simpa [Array.toList_setIfInBounds, Nat.add_assoc] using e
theorem DoesU.storeObj {t T : TypeId} {x y : Operand} {b i : Nat} {cs news : List Value} {v : Value} (hsz : (P.info? t).map (·.size) = some news.length) (hx : ev σ x = some (.pointer (some ⟨b, i, none⟩))) (hy : ev σ y = some v)
    (hv : v.cells.toList = news) (h1 : news.all (·.oneCell') = true) (hs : Sel η (obj b T cs) ζ) (hl : i + news.length ≤ cs.length) :
    DoesU P (.store t x y) σ g η (obj b T (cs.take i ++ news ++ cs.drop (i + news.length)) :: ζ) :=
  fun o ρ w ho hk hw => by
    have hw1 := hw.sel hs
    have hst := run_storeCells_at P b i T news 0 cs.toArray w hw1.block (by simpa using hl) (by simpa using h1)
    refine ⟨w.setRow b (cs.take i ++ news ++ cs.drop (i + news.length)).toArray, ?_, hw1.setRow⟩
    have hc : v.cells.size = news.length := by rw [← hv]; simp
    simp only [Nat.add_zero] at hst
    simp [execOp, ho, hk x _ hx, hk y _ hy, Instr.storeAt, Instr.sureAddr, storeVar, run_sizeOf hsz, hc, hv, hst]
/-- into one cell -/
theorem DoesU.store1 {t T : TypeId} {x y : Operand} {b i : Nat} {cs : List Value} {v : Value} (ht : flat1 P t = true) (hx : ev σ x = some (.pointer (some ⟨b, i, none⟩))) (hy : ev σ y = some v)
    (h1 : v.oneCell' = true) (hs : Sel η (obj b T cs) ζ) (hl : i < cs.length) : DoesU P (.store t x y) σ g η (obj b T (cs.set i v) :: ζ) := by
  have hc : v.cells = #[v] := by cases v <;> first | rfl | cases h1
  have hsz : (P.info? t).map (·.size) = some 1 := by unfold flat1 at ht; simp at ht; simpa using ht.2
  have := DoesU.storeObj (P := P) (g := g) (news := [v]) hsz hx hy (by rw [hc]) (by simp [h1]) hs (by simp; omega)
  rw [List.set_eq_take_append_cons_drop, if_pos hl]
  simpa using this

end
end Go.Sp
