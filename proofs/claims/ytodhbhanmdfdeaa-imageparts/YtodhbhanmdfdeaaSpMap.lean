import Derived.Test.YtodhbhanmdfdeaaSpFlat
import Derived.Laws.IdiomRangeMap
/- Maps whose keys are strings. -/
namespace Go.Sp
/-- a key, what is there, when it was laid -/
abbrev SEnt := List UInt8 × Value × Nat
def sEnt (x : SEnt) : MapEntry := { key := .string (str x.1), val := x.2.1, born := x.2.2 }
def sEs (l : List SEnt) : Array MapEntry := (l.map sEnt).toArray
def getS : List SEnt → List UInt8 → Option Value
  | [], _ => none
  | x :: l, k => if x.1 = k then some x.2.1 else getS l k
def setS : List SEnt → List UInt8 → Value → List SEnt
  | [], _, _ => []
  | x :: l, k, v => if x.1 = k then (k, v, x.2.2) :: l else x :: setS l k v
def putS (l : List SEnt) (c : Nat) (k : List UInt8) (v : Value) : List SEnt := if (getS l k).isSome then setS l k v else l ++ [(k, v, c)]
def clkS (l : List SEnt) (c : Nat) (k : List UInt8) : Nat := if (getS l k).isSome then c else c + 1
def delS : List SEnt → List UInt8 → List SEnt
  | [], _ => []
  | x :: l, k => if x.1 = k then l else x :: delS l k
theorem str_inj {a b : List UInt8} : str a = str b ↔ a = b := by
  constructor
  · intro h
    have := congrArg (fun x : ByteArray => x.data.toList) h
    simpa [str] using this
  · rintro rfl; rfl
theorem str_beq (a b : List UInt8) : (str a == str b) = decide (a = b) := by
  show (ByteArray.beq (str a) (str b)) = _
  unfold ByteArray.beq
  by_cases h : a = b
  · subst h; simp
  · simp [h, str]
theorem findNow_str (k : List UInt8) : ∀ (l : List SEnt) (i : Nat), Instr.findNow .string (.string (str k)) (l.map sEnt) i = some ((getS l k).map fun v => (i + (l.findIdx fun x => x.1 == k), v))
  | [], _ => rfl
  | x :: l, i => by
    have ih := findNow_str k l (i + 1)
    simp only [List.map_cons, Instr.findNow, sEnt, Instr.sameNow]
    by_cases h : x.1 = k
    · subst h; simp [getS, str_beq, List.findIdx_cons]
    · have hne : (str k == str x.1) = false := by
        rw [str_beq]; exact decide_eq_false fun e => h e.symm
      rw [hne]
      simp only
      rw [ih]
      have h2 : (x.1 == k) = false := by simpa using h
      simp [getS, h, List.findIdx_cons, h2]
      cases getS l k with
      | none => rfl
      | some v => simp; omega
/-- a map of one's own -/
def MapP (b : Nat) (l : List SEnt) (c : Nat) : SProp := blk b (.map (sEs l) c)
section
variable {ro : Option Nat} {P : Program} {fn : Func} {n : Nat} {R : Ending → World → Prop} {k : List Item} {σ : List (Nat × Value)} {D : List Deferred} {g : Gr} {η ζ θ : List SProp} {ops : Array Oper} {i d : Nat} {ls : List Nat}
  {t tk te : TypeId} {x y z : Operand} {b c : Nat} {l : List SEnt} {key : List UInt8} {w : World}
theorem run_findKey_str (hk : P.underlying tk = some .string) : (Instr.findKey tk (.string (str key)) (sEs l).toList).run P w = .ok ((getS l key).map fun v => (l.findIdx fun x => x.1 == key, v)) w := by
  have h := findNow_str key l 0
  simp only [sEs, Instr.findKey, Sem.run_bind, run_underlying hk, Result.andThen, h, Nat.zero_add]
  rfl
theorem run_checkKey_str (hk : P.underlying tk = some .string) (e : Bool) (n : Nat) : (Instr.checkKey e (n + 1) tk (.string (str key))).run P w = .ok () w := by
  simp only [Instr.checkKey, Sem.run_bind, run_underlying hk, Result.andThen]
  rfl
theorem run_lookup_str (ht : P.underlying t = some (.map tk te)) (hk : P.underlying tk = some .string) {zv : Value} (hz : (zeroValue te).run P w = .ok zv w) (hb : w.heap[b]? = some (.map (sEs l) c)) (ok : Bool) :
    (Instr.lookup t (.map (some b)) (.string (str key)) ok).run P w = .ok (if ok then .tuple #[(getS l key).getD zv, .bool (getS l key).isSome] else (getS l key).getD zv) w := by
  have h1 := fun e => run_checkKey_str (P := P) (w := w) (key := key) hk e 9999
  have h2 := run_findKey_str (P := P) (w := w) (key := key) (l := l) hk
  simp only [Instr.lookup, Sem.run_bind, run_underlying ht, Result.andThen, MapKept.run_getObj_map hb, Sem.run_pure]
  rw [h1]
  simp only
  rw [h2]
  cases getS l key with
  | none => simp [hz]
  | some v => simp
theorem MapP.block (h : Holds w g (MapP b l c :: η)) : w.heap[b]? = some (.map (sEs l) c) := Holds.block h
theorem Does.lookupS {kb : Bool} {zv : Value} (ht : P.underlying t = some (.map tk te)) (hk : P.underlying tk = some .string) (hz : ∀ w, (zeroValue te).run P w = .ok zv w) (hx : ev σ x = some (.map (some b))) (hy : ev σ y = some (.string (str key))) (hs : Sel η (MapP b l c) ζ) :
    Does P (.lookup t x y kb) σ g η (if kb then .tuple #[(getS l key).getD zv, .bool (getS l key).isSome] else (getS l key).getD zv) η :=
  fun o ρ w ho hkn hw => ⟨w, by
    have := run_lookup_str (P := P) (key := key) ht hk (hz w) (hw.sel hs).block kb
    simp [execOp, ho, hkn x _ hx, hkn y _ hy, this], hw⟩
theorem Does.lookupN {kb : Bool} {zv : Value} (ht : P.underlying t = some (.map tk te)) (hk : P.underlying tk = some .string) (hz : ∀ w, (zeroValue te).run P w = .ok zv w) (hx : ev σ x = some (.map none)) (hy : ev σ y = some (.string (str key))) :
    Does P (.lookup t x y kb) σ g η (if kb then .tuple #[zv, .bool false] else zv) η :=
  fun o ρ w ho hkn hw => ⟨w, by
    simp [execOp, ho, hkn x _ hx, hkn y _ hy, Instr.lookup, run_underlying ht, run_checkKey_str hk, Instr.findKey, run_underlying hk, Instr.findNow, hz], hw⟩
theorem getS_idx : ∀ (l : List SEnt) (k : List UInt8) (v : Value), getS l k = some v → ∃ x, l[l.findIdx fun x => x.1 == k]? = some x ∧ x.1 = k
  | [], _, _, h => by cases h
  | x :: l, k, v, h => by
    by_cases e : x.1 = k
    · exact ⟨x, by simp [List.findIdx_cons, e], e⟩
    · have e2 : (x.1 == k) = false := by simpa using e
      rw [getS, if_neg e] at h
      obtain ⟨y, h1, h2⟩ := getS_idx l k v h
      exact ⟨y, by simp [List.findIdx_cons, e2, h1], h2⟩
theorem modify_setS (k : List UInt8) (v : Value) : ∀ (l : List SEnt), (l.map sEnt).modify (l.findIdx fun x => x.1 == k) (fun e => { e with key := .string (str k), val := v }) = (setS l k v).map sEnt
  | [] => by simp [setS]
  | x :: l => by
    by_cases e : x.1 = k
    · simp [List.findIdx_cons, e, setS, sEnt]
    · have e2 : (x.1 == k) = false := by simpa using e
      have ih := modify_setS k v l
      simp [List.findIdx_cons, e2, setS, e, ih]
theorem erase_delS (k : List UInt8) : ∀ (l : List SEnt), (l.map sEnt).eraseIdx (l.findIdx fun x => x.1 == k) = (delS l k).map sEnt
  | [] => rfl
  | x :: l => by
    by_cases e : x.1 = k
    · simp [List.findIdx_cons, e, delS]
    · have e2 : (x.1 == k) = false := by simpa using e
      have ih := erase_delS k l
      simp [List.findIdx_cons, e2, delS, e, ih]
theorem sEs_modify (l : List SEnt) (k : List UInt8) (v : Value) : (sEs l).modify (l.findIdx fun x => x.1 == k) (fun e => { e with key := .string (str k), val := v }) = sEs (setS l k v) := by
  apply Array.toList_inj.1
  rw [Array.toList_modify]
  exact modify_setS k v l
theorem sEs_erase (l : List SEnt) (k : List UInt8) : (sEs l).eraseIdxIfInBounds (l.findIdx fun x => x.1 == k) = sEs (delS l k) := by
  apply Array.toList_inj.1
  rw [Array.toList_eraseIdxIfInBounds]
  exact erase_delS k l
theorem run_setObj_map' (o : Obj) (hb : w.heap[b]? = some (.map (sEs l) c)) : (setObj b o).run P w = .ok () (w.putObj b o) := by
  have := MapKept.run_setObj_map (P := P) o hb
  rw [this]; rfl
theorem run_mapUpdate_str {v : Value} (ht : P.underlying t = some (.map tk te)) (hk : P.underlying tk = some .string) (hb : w.heap[b]? = some (.map (sEs l) c)) :
    (Instr.mapUpdate t (.map (some b)) (.string (str key)) v).run P w = .ok () (w.putObj b (.map (sEs (putS l c key v)) (clkS l c key))) := by
  have h1 := fun e => run_checkKey_str (P := P) (w := w) (key := key) hk e 9999
  have h2 := run_findKey_str (P := P) (w := w) (key := key) (l := l) hk
  simp only [Instr.mapUpdate, Sem.run_bind, run_underlying ht, Result.andThen, MapKept.run_getObj_map hb]
  rw [h1]
  simp only
  rw [h2]
  cases hg : getS l key with
  | none =>
    simp only [Option.map_none, run_setObj_map' _ hb, putS, clkS, hg, Option.isSome_none, Bool.false_eq_true, if_false]
    simp [sEs, sEnt]
  | some u =>
    obtain ⟨y, hy, hyk⟩ := getS_idx l key u hg
    have hy2 : (sEs l)[l.findIdx fun x => x.1 == key]? = some (sEnt y) := by simp [sEs, hy]
    have hkey : (((sEs l)[l.findIdx fun x => x.1 == key]?).map (·.key)).getD (.string (str key)) = .string (str key) := by rw [hy2]; simp [sEnt, hyk]
    have hsame : Instr.sameBits 10000 (.string (str key)) (.string (str key)) = true := by
      show (str key == str key) = true
      rw [str_beq]; simp
    simp only [Option.map_some, hkey, Instr.keyThatStays, hsame, if_true, Sem.run_bind, Sem.run_pure, Result.andThen, run_setObj_map' _ hb, putS, clkS, hg, Option.isSome_some, sEs_modify]
theorem run_delete_str (ht : P.underlying t = some (.map tk te)) (hk : P.underlying tk = some .string) {t2 ty : TypeId} (hb : w.heap[b]? = some (.map (sEs l) c)) :
    (Builtin.delete_ #[t, t2] ty #[.map (some b), .string (str key)]).run P w = .ok (.tuple #[]) (w.putObj b (.map (sEs (delS l key)) c)) := by
  have h1 := fun e => run_checkKey_str (P := P) (w := w) (key := key) hk e 9999
  have h2 := run_findKey_str (P := P) (w := w) (key := key) (l := l) hk
  have q0 : (#[t, t2] : Array TypeId)[0]? = some t := rfl
  have q1 : (#[Value.map (some b), .string (str key)] : Array Value)[0]? = some (.map (some b)) := rfl
  have q2 : (#[Value.map (some b), .string (str key)] : Array Value)[1]? = some (.string (str key)) := rfl
  simp only [Builtin.delete_, q0, q1, q2, Sem.run_bind, run_underlying ht, Result.andThen, MapKept.run_getObj_map hb]
  rw [h1]
  simp only
  rw [h2]
  cases hg : getS l key with
  | none =>
    have hd : delS l key = l := by
      clear hb h2
      induction l with
      | nil => rfl
      | cons x l ih =>
        by_cases e : x.1 = key
        · simp [getS, e] at hg
        · simp only [getS, if_neg e] at hg
          simp only [delS, if_neg e, ih hg]
    simp only [Option.map_none, Sem.run_bind, run_setObj_map' _ hb, hd, Sem.run_pure, Result.andThen]
  | some u =>
    simp only [Option.map_some, Sem.run_bind, run_setObj_map' _ hb, sEs_erase, Sem.run_pure, Result.andThen]
theorem run_next_at {ty bm since c0 clk r : Nat} {seen : Array Nat} {es : Array MapEntry} (hr : w.heap[r]? = some (.mapIter (some bm) since seen c0)) (hb : w.heap[bm]? = some (.map es clk)) (hold : ∀ x ∈ es.toList, x.born < since) (hsc : since ≤ c0) :
    ((leftOf es seen).size = 0 ∧ (Instr.next (.pointer (some ⟨r, 0, none⟩)) false ty).run P w = .ok (.tuple #[.bool false]) w) ∨
    ∃ e ∈ (leftOf es seen).toList, ∃ n : Nat, w.drawn ≤ n ∧ (Instr.next (.pointer (some ⟨r, 0, none⟩)) false ty).run P w = .ok (.tuple #[.bool true, e.key, e.val]) (({ w with drawn := n } : World).putObj r (.mapIter (some bm) since (seen.push e.born) clk)) := by
  simp only [Instr.next, getObj, Sem.run_bind, Sem.run, hr, hb, Result.andThen, next_test_false seen es since c0 hold hsc, Bool.false_eq_true, if_false]
  unfold leftOf
  have hmem : ∀ x ∈ (Array.filter (fun e => !seen.contains e.born) es).toList, x.born < since := fun x hx => hold x (by simp at hx ⊢; exact hx.1)
  generalize Array.filter (fun e => !seen.contains e.born) es = L at hmem ⊢
  have e1 : L.filter (fun x => decide (x.born < since)) = L := Array.filter_eq_self.2 (fun x hx => by simpa using hmem x (by simpa using hx))
  have e2 : L.filter (fun x => decide (x.born ≥ since)) = #[] := by
    rw [Array.filter_eq_empty_iff]
    intro x hx
    have := hmem x (by simpa using hx)
    simp
    omega
  simp only [e1, e2, Array.append_empty]
  by_cases h0 : L.size = 0
  · left
    have : L = #[] := Array.eq_empty_of_size_eq_zero h0
    subst this
    refine ⟨rfl, ?_⟩
    simp [choose, Sem.run, Question.forced]
  · right
    have hne : L.isEmpty = false := by simp [Array.isEmpty, h0]
    simp only [hne, Bool.false_eq_true, if_false, Array.empty_append, Array.size_map]
    have hch : ∃ (j n : Nat), j < L.size ∧ w.drawn ≤ n ∧ (choose (Question.mapNext L.size)).run P w = .ok j { w with drawn := n } := by
      by_cases hf : L.size ≤ 1
      · exact ⟨0, w.drawn, by omega, Nat.le_refl _, by simp [choose, Sem.run, Question.forced, hf]⟩
      · exact ⟨_, w.drawn + 1, Nat.mod_lt _ (by omega), Nat.le_succ _, by
          simp only [choose, Sem.run, Question.forced, decide_eq_true_eq, hf, if_false, Question.cut]
          rfl⟩
    obtain ⟨j, n, hj, hnn, hrun⟩ := hch
    refine ⟨L[j], by simp, n, hnn, ?_⟩
    have hset : ∀ (o' : Obj), (setObj r o').run P ({ w with drawn := n } : World) = .ok () (({ w with drawn := n } : World).putObj r o') := fun o' => by
      simp only [setObj, Sem.run]
      rw [show ({ w with drawn := n } : World).heap[r]? = some (.mapIter (some bm) since seen c0) from hr]
      rfl
    simp only [hrun, Array.getElem?_map, Array.getElem?_eq_getElem hj, Option.map_some, Sem.run_bind, hset, Result.andThen]
    rfl
theorem DoesE.makeMapS {v : Value → List SProp → Prop} (hv : ∀ b, v (.map (some b)) (MapP b [] 0 :: η)) : DoesE P (.makeMap t none) σ g η v :=
  fun o ρ w ho hkn hw => ⟨_, _, _, hv w.heap.size, by simp [execOp, ho, Instr.makeMap, newObj, Sem.run]; rfl, hw.alloc _⟩
theorem DoesE.makeMap' : DoesE P (.makeMap t none) σ g η fun v η' => ∃ b, v = .map (some b) ∧ η' = MapP b [] 0 :: η := DoesE.makeMapS fun b => ⟨b, rfl, rfl⟩
theorem DoesU.mapUpdateS {v : Value} (ht : P.underlying t = some (.map tk te)) (hk : P.underlying tk = some .string) (hx : ev σ x = some (.map (some b))) (hy : ev σ y = some (.string (str key))) (hz : ev σ z = some v) (hs : Sel η (MapP b l c) ζ) :
    DoesU P (.mapUpdate t x y z) σ g η (MapP b (putS l c key v) (clkS l c key) :: ζ) :=
  fun o ρ w ho hkn hw => by
    have hw1 := hw.sel hs
    refine ⟨_, ?_, hw1.putObj _⟩
    have := run_mapUpdate_str (P := P) (key := key) (v := v) ht hk hw1.block
    simp [execOp, ho, hkn x _ hx, hkn y _ hy, hkn z _ hz, this]
theorem O.deleteS {t2 : TypeId} (ho : opAtU ops i = some (.call ⟨.builtin .delete, #[x, y], #[t, t2]⟩)) (ht : P.underlying t = some (.map tk te)) (hk : P.underlying tk = some .string) (hx : ev σ x = some (.map (some b))) (hy : ev σ y = some (.string (str key))) (hs : Sel η (MapP b l c) ζ)
    (h : O ro P fn n R ops ls k σ D g (MapP b (delS l key) c :: ζ)) : O ro P fn n R ops (i :: ls) k σ D g η := by
  intro a w hf hd hw
  obtain ⟨o, hi, hdst, hop, hg⟩ := opAtU_spec ho
  have hw1 := hw.sel hs
  have hrun : (execOp a.eval o).run P w = .ok (.value (.tuple #[])) (w.putObj b (.map (sEs (delS l key)) c)) := by
    have := run_delete_str (P := P) (key := key) (t2 := t2) (ty := o.type) ht hk hw1.block
    simp [execOp, hop, resolve, invoke, builtin, hf.knows x _ hx, hf.knows y _ hy, this]
  refine O.fire hi (by simp [Region.wanted, hg]) (by rw [hop]; intro c hc; cases hc) hrun ?_
  rw [Oper.uponIn_value, hdst]
  exact h _ _ hf hd (hw1.putObj _)
/-- as such a map is -/
def WfS (l : List SEnt) (c : Nat) : Prop := (l.map (·.2.2)).Nodup ∧ (∀ x ∈ l, x.2.2 < c) ∧ (l.map (·.1)).Nodup
/-- a look that goes over it: what it has seen -/
def IterP (it b c : Nat) (done : List SEnt) : SProp := blk it (.mapIter (some b) c (done.map (·.2.2)).toArray c)
theorem DoesE.rangeS (ht : P.underlying t = some (.map tk te)) (hx : ev σ x = some (.map (some b))) (hs : Sel η (MapP b l c) ζ) : DoesE P (.range t x) σ g η fun v η' => ∃ it, v = .pointer (some ⟨it, 0, none⟩) ∧ η' = IterP it b c [] :: η :=
  fun o ρ w ho hkn hw => by
    have hb := (hw.sel hs).block
    exact ⟨_, _, _, ⟨w.heap.size, rfl, rfl⟩, by simp [execOp, ho, hkn x _ hx, Instr.range, run_underlying ht, MapKept.run_getObj_map hb, newObj, Sem.run], hw.alloc _⟩
theorem mem_leftOf {seen : List Nat} {e : MapEntry} : e ∈ (leftOf (sEs l) seen.toArray).toList ↔ ∃ x ∈ l, e = sEnt x ∧ x.2.2 ∉ seen := by
  unfold leftOf
  simp only [Array.toList_filter, List.mem_filter, sEs, List.mem_map]
  constructor
  · rintro ⟨⟨x, hx, rfl⟩, h⟩
    exact ⟨x, hx, rfl, by simpa [sEnt] using h⟩
  · rintro ⟨x, hx, rfl, h⟩
    exact ⟨⟨x, hx, rfl⟩, by simpa [sEnt] using h⟩
theorem O.nextS {done todo : List SEnt} {it : Nat} (ho : Fires ops i n σ d (.next x false)) (hx : ev σ x = some (.pointer (some ⟨it, 0, none⟩))) (hwf : WfS l c) (hp : l.Perm (done ++ todo)) (s1 : Sel η (IterP it b c done) ζ) (s2 : Sel ζ (MapP b l c) θ)
    (h0 : todo = [] → O ro P fn n R ops ls k ((d, .tuple #[.bool false]) :: σ) D g (IterP it b c done :: MapP b l c :: θ))
    (h1 : ∀ x t1 t2, todo = t1 ++ x :: t2 → O ro P fn n R ops ls k ((d, .tuple #[.bool true, .string (str x.1), x.2.1]) :: σ) D g (IterP it b c (done ++ [x]) :: MapP b l c :: θ)) : O ro P fn n R ops (i :: ls) k σ D g η := by
  intro a w hf hd hw
  obtain ⟨o, hi, hdst, hop, hg, hb⟩ := ho.spec
  have hw1 : Holds w g (IterP it b c done :: MapP b l c :: θ) := (hw.sel s1).imp fun _ h => Sat.cons_imp (fun _ y => y) (fun _ y => Sat.perm s2.perm y) h
  have hr := Holds.block hw1
  have hm := MapP.block (hw1.sel (.there .here))
  have hnd : ((done ++ todo).map (·.2.2)).Nodup := (hp.map _).nodup_iff.1 hwf.1
  rw [List.map_append, List.nodup_append] at hnd
  have hold : ∀ x ∈ (sEs l).toList, x.born < c := fun e he => by
    simp only [sEs, List.mem_map] at he
    obtain ⟨y, hy, rfl⟩ := he
    exact hwf.2.1 y hy
  rcases run_next_at (P := P) (ty := o.type) hr hm hold (Nat.le_refl _) with ⟨hz, hrun⟩ | ⟨e, he, m, hmn, hrun⟩
  · have htodo : todo = [] := by
      cases todo with
      | nil => rfl
      | cons y ys =>
        have hyl : y ∈ l := hp.mem_iff.2 (by simp)
        have : sEnt y ∈ (leftOf (sEs l) (done.map (·.2.2)).toArray).toList := mem_leftOf.2 ⟨y, hyl, rfl, fun h => hnd.2.2 _ h _ (by simp) rfl⟩
        rw [Array.eq_empty_of_size_eq_zero hz] at this
        cases this
    have hrun' : (execOp a.eval o).run P w = .ok (.value (.tuple #[.bool false])) w := by simp [execOp, hop, hf.knows x _ hx, hrun]
    refine O.fire hi (hg a hf) (notDefer_value hrun') hrun' ?_
    rw [Oper.uponIn_value, hdst]
    exact h0 htodo _ _ (hf.put hb) hd hw1
  · obtain ⟨y, hy, rfl, hns⟩ := mem_leftOf.1 he
    have hyt : y ∈ todo := by
      rcases List.mem_append.1 (hp.mem_iff.1 hy) with h | h
      · exact absurd (List.mem_map.2 ⟨y, h, rfl⟩) hns
      · exact h
    obtain ⟨t1, t2, htt⟩ := List.append_of_mem hyt
    have hrun' : (execOp a.eval o).run P w = .ok (.value (.tuple #[.bool true, .string (str y.1), y.2.1])) (({ w with drawn := m } : World).putObj it (.mapIter (some b) c ((done.map (·.2.2)).toArray.push y.2.2) c)) := by
      simp [execOp, hop, hf.knows x _ hx, hrun, sEnt]
    refine O.fire hi (hg a hf) (notDefer_value hrun') hrun' ?_
    rw [Oper.uponIn_value, hdst]
    have hw2 := (hw1.drewN m hmn).putObj (.mapIter (some b) c ((done.map (·.2.2)).toArray.push y.2.2) c)
    have hiter : IterP it b c (done ++ [y]) = blk it (.mapIter (some b) c ((done.map (·.2.2)).toArray.push y.2.2) c) := by simp [IterP]
    rw [← hiter] at hw2
    exact h1 y t1 t2 htt _ _ (hf.put hb) hd hw2
theorem Does.entryS {done : List SEnt} {y : SEnt} {it : Nat} (hx : ev σ x = some (.pointer (some ⟨it, 0, none⟩))) (hwf : WfS l c) (hy : y ∈ l) (s1 : Sel η (IterP it b c (done ++ [y])) ζ) (s2 : Sel ζ (MapP b l c) θ) :
    Does P (.entry x) σ g η (.tuple #[.string (str y.1), y.2.1]) η := fun o ρ w ho hkn hw => by
  have hw1 : Holds w g (IterP it b c (done ++ [y]) :: MapP b l c :: θ) := (hw.sel s1).imp fun _ h => Sat.cons_imp (fun _ y => y) (fun _ y => Sat.perm s2.perm y) h
  have hr := Holds.block hw1
  have hm := MapP.block (hw1.sel (.there .here))
  have hfind : (sEs l).toList.find? (·.born == (sEnt y).born) = some (sEnt y) := find_born _ _ (by simpa [sEs, sEnt, Function.comp_def] using hwf.1) (show sEnt y ∈ (sEs l).toList from List.mem_map.2 ⟨y, hy, rfl⟩)
  have hfind2 : (sEs l).find? (fun e => e.born == y.2.2) = some (sEnt y) := by rw [← Array.find?_toList]; exact hfind
  have hback : (((done ++ [y]).map (·.2.2)).toArray).back? = some y.2.2 := by simp
  refine ⟨w, ?_, hw⟩
  have : (Instr.entry (.pointer (some ⟨it, 0, none⟩))).run P w = .ok (.tuple #[.string (str y.1), y.2.1]) w := by
    simp only [Instr.entry, getObj, Sem.run_bind, Sem.run, hr, Result.andThen, hback, hm, bne_self_eq_false, Bool.false_eq_true, if_false, hfind2]
    rfl
  simp [execOp, ho, hkn x _ hx, this]
end
end Go.Sp
