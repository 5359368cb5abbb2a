import Derived.Test.YthaebmfgelaleaaGreatSpMapT
import Derived.Test.YthaebmfgelaleaaGreatSpLast
/- Maps whose keys are of any kind that can be told apart. -/
namespace Go.Sp
variable {K : Type} [DecidableEq K] {enc : K → Value}
/-- a key, what is there, when it was laid -/
abbrev KEnt (K : Type) := K × Value × Nat
def kEnt {K : Type} (enc : K → Value) (x : KEnt K) : MapEntry := { key := enc (x.1), val := x.2.1, born := x.2.2 }
def kEs {K : Type} (enc : K → Value) (l : List (KEnt K)) : Array MapEntry := (l.map (kEnt enc)).toArray
def getK : List (KEnt K) → K → Option Value
  | [], _ => none
  | x :: l, k => if x.1 = k then some x.2.1 else getK l k
def setK : List (KEnt K) → K → Value → List (KEnt K)
  | [], _, _ => []
  | x :: l, k, v => if x.1 = k then (k, v, x.2.2) :: l else x :: setK l k v
def putK (l : List (KEnt K)) (c : Nat) (k : K) (v : Value) : List (KEnt K) := if (getK l k).isSome then setK l k v else l ++ [(k, v, c)]
def clkK (l : List (KEnt K)) (c : Nat) (k : K) : Nat := if (getK l k).isSome then c else c + 1
def delK : List (KEnt K) → K → List (KEnt K)
  | [], _ => []
  | x :: l, k => if x.1 = k then l else x :: delK l k
/-- keys of a type, as values: they can be looked for -/
structure KeyOk (P : Program) (tk : TypeId) (enc : K → Value) : Prop where
  find : ∀ (k : K) (l : List (KEnt K)) (w : World), (Instr.findKey tk (enc k) (kEs enc l).toList).run P w = .ok ((getK l k).map fun v => (l.findIdx fun x => x.1 == k, v)) w
  check : ∀ (e : Bool) (k : K) (w : World), (Instr.checkKey e 10000 tk (enc k)).run P w = .ok () w
  same : ∀ k : K, Instr.sameBits 10000 (enc k) (enc k) = true
theorem findAsking_key {P : Program} {tk : TypeId} (heq : ∀ (a b : K) (w : World), (Op.equal tk (enc a) (enc b)).run P w = .ok (decide (a = b)) w) (k : K) (w : World) : ∀ (l : List (KEnt K)) (i : Nat),
    (Instr.findAsking tk (enc k) (l.map (kEnt enc)) i).run P w = .ok ((getK l k).map fun v => (i + (l.findIdx fun x => x.1 == k), v)) w
  | [], _ => rfl
  | x :: l, i => by
    have ih := findAsking_key heq k w l (i + 1)
    simp only [List.map_cons, Instr.findAsking, kEnt, Sem.run_bind, heq, Result.andThen]
    by_cases h : x.1 = k
    · subst h; simp [getK, List.findIdx_cons]
    · have h2 : (x.1 == k) = false := by simpa using h
      rw [decide_eq_false (fun e => h e.symm)]
      simp only [Bool.false_eq_true, if_false, getK, if_neg h, List.findIdx_cons, h2]
      rw [ih]
      cases getK l k with
      | none => rfl
      | some v => simp; omega
theorem KeyOk.of {P : Program} {tk : TypeId} {dd : TypeDesc} (ht : P.underlying tk = some dd) (hn : ∀ k a : K, Instr.sameNow dd (enc k) (enc a) = none) (heq : ∀ (a b : K) (w : World), (Op.equal tk (enc a) (enc b)).run P w = .ok (decide (a = b)) w)
    (hc : ∀ (e : Bool) (k : K) (w : World), (Instr.checkKey e 10000 tk (enc k)).run P w = .ok () w) (hs : ∀ k : K, Instr.sameBits 10000 (enc k) (enc k) = true) : KeyOk P tk enc where
  check := hc
  same := hs
  find k l w := by
    have h := findAsking_key heq k w l 0
    simp only [kEs, Instr.findKey, Sem.run_bind, run_underlying ht, Result.andThen]
    cases l with
    | nil => rfl
    | cons x l =>
      have hf : Instr.findNow dd (enc k) ((x :: l).map (kEnt enc)) 0 = none := by
        simp only [List.map_cons, Instr.findNow, kEnt, hn]
      rw [hf]
      simpa using h
/-- a map of one's own -/
def MapK (enc : K → Value) (b : Nat) (l : List (KEnt K)) (c : Nat) : SProp := blk b (.map (kEs enc l) c)
section
variable {ro : Option Nat} {P : Program} {fn : Func} {n : Nat} {R : Ending → World → Prop} {k : List Item} {σ : List (Nat × Value)} {D : List Deferred} {g : Gr} {η ζ θ : List SProp} {ops : Array Oper} {i d : Nat} {ls : List Nat}
  {t tk te : TypeId} {x y z : Operand} {b c : Nat} {l : List (KEnt K)} {key : K} {w : World}
theorem run_lookup_key (ht : P.underlying t = some (.map tk te)) (hk : KeyOk P tk enc) {zv : Value} (hz : (zeroValue te).run P w = .ok zv w) (hb : w.heap[b]? = some (.map (kEs enc l) c)) (ok : Bool) :
    (Instr.lookup t (.map (some b)) (enc (key)) ok).run P w = .ok (if ok then .tuple #[(getK l key).getD zv, .bool (getK l key).isSome] else (getK l key).getD zv) w := by
  have h1 := fun e => hk.check e key w
  have h2 := hk.find key l w
  simp only [Instr.lookup, Sem.run_bind, run_underlying ht, Result.andThen, MapKept.run_getObj_map hb, Sem.run_pure]
  rw [h1]
  simp only
  rw [h2]
  cases getK l key with
  | none => simp [hz]
  | some v => simp
omit [DecidableEq K] in
theorem MapK.block (h : Holds w g (MapK enc b l c :: η)) : w.heap[b]? = some (.map (kEs enc l) c) := Holds.block h
theorem Does.lookupK {kb : Bool} {zv : Value} (ht : P.underlying t = some (.map tk te)) (hk : KeyOk P tk enc) (hz : ∀ w, (zeroValue te).run P w = .ok zv w) (hx : ev σ x = some (.map (some b))) (hy : ev σ y = some (enc (key))) (hs : Sel η (MapK enc b l c) ζ) :
    Does P (.lookup t x y kb) σ g η (if kb then .tuple #[(getK l key).getD zv, .bool (getK l key).isSome] else (getK l key).getD zv) η :=
  fun o ρ w ho hkn hw => ⟨w, by
    have := run_lookup_key (P := P) (key := key) ht hk (hz w) (hw.sel hs).block kb
    simp [execOp, ho, hkn x _ hx, hkn y _ hy, this], hw⟩
theorem Does.lookupKN {kb : Bool} {zv : Value} (ht : P.underlying t = some (.map tk te)) (hk : KeyOk P tk enc) (hz : ∀ w, (zeroValue te).run P w = .ok zv w) (hx : ev σ x = some (.map none)) (hy : ev σ y = some (enc (key))) :
    Does P (.lookup t x y kb) σ g η (if kb then .tuple #[zv, .bool false] else zv) η :=
  fun o ρ w ho hkn hw => ⟨w, by
    have hf := hk.find key [] w
    simp only [kEs, List.map_nil, List.toList_toArray, getK, Option.map_none] at hf
    simp [execOp, ho, hkn x _ hx, hkn y _ hy, Instr.lookup, run_underlying ht, hk.check, hf, hz], hw⟩
theorem getK_idx : ∀ (l : List (KEnt K)) (k : K) (v : Value), getK l k = some v → ∃ x, l[l.findIdx fun x => x.1 == k]? = some x ∧ x.1 = k
  | [], _, _, h => by cases h
  | x :: l, k, v, h => by
    by_cases e : x.1 = k
    · exact ⟨x, by simp [List.findIdx_cons, e], e⟩
    · have e2 : (x.1 == k) = false := by simpa using e
      rw [getK, if_neg e] at h
      obtain ⟨y, h1, h2⟩ := getK_idx l k v h
      exact ⟨y, by simp [List.findIdx_cons, e2, h1], h2⟩
theorem modify_setK (k : K) (v : Value) : ∀ (l : List (KEnt K)), (l.map (kEnt enc)).modify (l.findIdx fun x => x.1 == k) (fun e => { e with key := enc (k), val := v }) = (setK l k v).map (kEnt enc)
  | [] => by simp [setK]
  | x :: l => by
    by_cases e : x.1 = k
    · simp [List.findIdx_cons, e, setK, kEnt]
    · have e2 : (x.1 == k) = false := by simpa using e
      have ih := modify_setK k v l
      simp [List.findIdx_cons, e2, setK, e, ih]
theorem erase_delK (k : K) : ∀ (l : List (KEnt K)), (l.map (kEnt enc)).eraseIdx (l.findIdx fun x => x.1 == k) = (delK l k).map (kEnt enc)
  | [] => rfl
  | x :: l => by
    by_cases e : x.1 = k
    · simp [List.findIdx_cons, e, delK]
    · have e2 : (x.1 == k) = false := by simpa using e
      have ih := erase_delK k l
      simp [List.findIdx_cons, e2, delK, e, ih]
theorem kEs_modify (l : List (KEnt K)) (k : K) (v : Value) : (kEs enc l).modify (l.findIdx fun x => x.1 == k) (fun e => { e with key := enc (k), val := v }) = kEs enc (setK l k v) := by
  apply Array.toList_inj.1
  rw [Array.toList_modify]
  exact modify_setK k v l
theorem kEs_erase (l : List (KEnt K)) (k : K) : (kEs enc l).eraseIdxIfInBounds (l.findIdx fun x => x.1 == k) = kEs enc (delK l k) := by
  apply Array.toList_inj.1
  rw [Array.toList_eraseIdxIfInBounds]
  exact erase_delK k l
omit [DecidableEq K] in
theorem run_setObj_mapK (o : Obj) (hb : w.heap[b]? = some (.map (kEs enc l) c)) : (setObj b o).run P w = .ok () (w.putObj b o) := by
  have := MapKept.run_setObj_map (P := P) o hb
  rw [this]; rfl
theorem run_mapUpdate_key {v : Value} (ht : P.underlying t = some (.map tk te)) (hk : KeyOk P tk enc) (hb : w.heap[b]? = some (.map (kEs enc l) c)) :
    (Instr.mapUpdate t (.map (some b)) (enc (key)) v).run P w = .ok () (w.putObj b (.map (kEs enc (putK l c key v)) (clkK l c key))) := by
  have h1 := fun e => hk.check e key w
  have h2 := hk.find key l w
  simp only [Instr.mapUpdate, Sem.run_bind, run_underlying ht, Result.andThen, MapKept.run_getObj_map hb]
  rw [h1]
  simp only
  rw [h2]
  cases hg : getK l key with
  | none =>
    simp only [Option.map_none, run_setObj_mapK _ hb, putK, clkK, hg, Option.isSome_none, Bool.false_eq_true, if_false]
    simp [kEs, kEnt]
  | some u =>
    obtain ⟨y, hy, hyk⟩ := getK_idx l key u hg
    have hy2 : (kEs enc l)[l.findIdx fun x => x.1 == key]? = some (kEnt enc y) := by simp [kEs, hy]
    have hkey : (((kEs enc l)[l.findIdx fun x => x.1 == key]?).map (·.key)).getD (enc (key)) = enc (key) := by rw [hy2]; simp [kEnt, hyk]
    have hsame : Instr.sameBits 10000 (enc (key)) (enc (key)) = true := hk.same key
    simp only [Option.map_some, hkey, Instr.keyThatStays, hsame, if_true, Sem.run_bind, Sem.run_pure, Result.andThen, run_setObj_mapK _ hb, putK, clkK, hg, Option.isSome_some, kEs_modify]
theorem run_delete_key (ht : P.underlying t = some (.map tk te)) (hk : KeyOk P tk enc) {t2 ty : TypeId} (hb : w.heap[b]? = some (.map (kEs enc l) c)) :
    (Builtin.delete_ #[t, t2] ty #[.map (some b), enc (key)]).run P w = .ok (.tuple #[]) (w.putObj b (.map (kEs enc (delK l key)) c)) := by
  have h1 := fun e => hk.check e key w
  have h2 := hk.find key l w
  have q0 : (#[t, t2] : Array TypeId)[0]? = some t := rfl
  have q1 : (#[Value.map (some b), enc (key)] : Array Value)[0]? = some (.map (some b)) := rfl
  have q2 : (#[Value.map (some b), enc (key)] : Array Value)[1]? = some (enc (key)) := rfl
  simp only [Builtin.delete_, q0, q1, q2, Sem.run_bind, run_underlying ht, Result.andThen, MapKept.run_getObj_map hb]
  rw [h1]
  simp only
  rw [h2]
  cases hg : getK l key with
  | none =>
    have hd : delK l key = l := by
      clear hb h2
      induction l with
      | nil => rfl
      | cons x l ih =>
        by_cases e : x.1 = key
        · simp [getK, e] at hg
        · simp only [getK, if_neg e] at hg
          simp only [delK, if_neg e, ih hg]
    simp only [Option.map_none, Sem.run_bind, run_setObj_mapK _ hb, hd, Sem.run_pure, Result.andThen]
  | some u =>
    simp only [Option.map_some, Sem.run_bind, run_setObj_mapK _ hb, kEs_erase, Sem.run_pure, Result.andThen]
omit [DecidableEq K] in
theorem DoesE.makeMapK {v : Value → List SProp → Prop} (hv : ∀ b, v (.map (some b)) (MapK enc b [] 0 :: η)) : DoesE P (.makeMap t none) σ g η v :=
  fun o ρ w ho hkn hw => ⟨_, _, _, hv w.heap.size, by simp [execOp, ho, Instr.makeMap, newObj, Sem.run]; rfl, hw.alloc _⟩
omit [DecidableEq K] in
theorem DoesE.makeMapK' : DoesE P (.makeMap t none) σ g η fun v η' => ∃ b, v = .map (some b) ∧ η' = MapK enc b [] 0 :: η := DoesE.makeMapK (enc := enc) fun b => ⟨b, rfl, rfl⟩
theorem DoesU.mapUpdateK {v : Value} (ht : P.underlying t = some (.map tk te)) (hk : KeyOk P tk enc) (hx : ev σ x = some (.map (some b))) (hy : ev σ y = some (enc (key))) (hz : ev σ z = some v) (hs : Sel η (MapK enc b l c) ζ) :
    DoesU P (.mapUpdate t x y z) σ g η (MapK enc b (putK l c key v) (clkK l c key) :: ζ) :=
  fun o ρ w ho hkn hw => by
    have hw1 := hw.sel hs
    refine ⟨_, ?_, hw1.putObj _⟩
    have := run_mapUpdate_key (P := P) (key := key) (v := v) ht hk hw1.block
    simp [execOp, ho, hkn x _ hx, hkn y _ hy, hkn z _ hz, this]
theorem O.deleteK {t2 : TypeId} (ho : opAtU ops i = some (.call ⟨.builtin .delete, #[x, y], #[t, t2]⟩)) (ht : P.underlying t = some (.map tk te)) (hk : KeyOk P tk enc) (hx : ev σ x = some (.map (some b))) (hy : ev σ y = some (enc (key))) (hs : Sel η (MapK enc b l c) ζ)
    (h : O ro P fn n R ops ls k σ D g (MapK enc b (delK l key) c :: ζ)) : O ro P fn n R ops (i :: ls) k σ D g η := by
  intro a w hf hd hw
  obtain ⟨o, hi, hdst, hop, hg⟩ := opAtU_spec ho
  have hw1 := hw.sel hs
  have hrun : (execOp a.eval o).run P w = .ok (.value (.tuple #[])) (w.putObj b (.map (kEs enc (delK l key)) c)) := by
    have := run_delete_key (P := P) (key := key) (t2 := t2) (ty := o.type) ht hk hw1.block
    simp [execOp, hop, resolve, invoke, builtin, hf.knows x _ hx, hf.knows y _ hy, this]
  refine O.fire hi (by simp [Region.wanted, hg]) (by rw [hop]; intro c hc; cases hc) hrun ?_
  rw [Oper.uponIn_value, hdst]
  exact h _ _ hf hd (hw1.putObj _)
/-- as such a map is -/
def WfK (l : List (KEnt K)) (c : Nat) : Prop := (l.map (·.2.2)).Nodup ∧ (∀ x ∈ l, x.2.2 < c) ∧ (l.map (·.1)).Nodup
/-- a look that goes over it: what it has seen -/
def IterK (it b c : Nat) (done : List (KEnt K)) : SProp := blk it (.mapIter (some b) c (done.map (·.2.2)).toArray c)
omit [DecidableEq K] in
theorem DoesE.rangeK (ht : P.underlying t = some (.map tk te)) (hx : ev σ x = some (.map (some b))) (hs : Sel η (MapK enc b l c) ζ) : DoesE P (.range t x) σ g η fun v η' => ∃ it, v = .pointer (some ⟨it, 0, none⟩) ∧ η' = IterK (K := K) it b c [] :: η :=
  fun o ρ w ho hkn hw => by
    have hb := (hw.sel hs).block
    exact ⟨_, _, _, ⟨w.heap.size, rfl, rfl⟩, by simp [execOp, ho, hkn x _ hx, Instr.range, run_underlying ht, MapKept.run_getObj_map hb, newObj, Sem.run], hw.alloc _⟩
omit [DecidableEq K] in
theorem mem_leftOfK {seen : List Nat} {e : MapEntry} : e ∈ (leftOf (kEs enc l) seen.toArray).toList ↔ ∃ x ∈ l, e = kEnt enc x ∧ x.2.2 ∉ seen := by
  unfold leftOf
  simp only [Array.toList_filter, List.mem_filter, kEs, List.mem_map]
  constructor
  · rintro ⟨⟨x, hx, rfl⟩, h⟩
    exact ⟨x, hx, rfl, by simpa [kEnt] using h⟩
  · rintro ⟨x, hx, rfl, h⟩
    exact ⟨⟨x, hx, rfl⟩, by simpa [kEnt] using h⟩
omit [DecidableEq K] in
theorem O.nextK {done todo : List (KEnt K)} {it : Nat} (ho : Fires ops i n σ d (.next x false)) (hx : ev σ x = some (.pointer (some ⟨it, 0, none⟩))) (hwf : WfK l c) (hp : l.Perm (done ++ todo)) (s1 : Sel η (IterK it b c done) ζ) (s2 : Sel ζ (MapK enc b l c) θ)
    (h0 : todo = [] → O ro P fn n R ops ls k ((d, .tuple #[.bool false]) :: σ) D g (IterK it b c done :: MapK enc b l c :: θ))
    (h1 : ∀ x t1 t2, todo = t1 ++ x :: t2 → O ro P fn n R ops ls k ((d, .tuple #[.bool true, enc (x.1), x.2.1]) :: σ) D g (IterK it b c (done ++ [x]) :: MapK enc b l c :: θ)) : O ro P fn n R ops (i :: ls) k σ D g η := by
  intro a w hf hd hw
  obtain ⟨o, hi, hdst, hop, hg, hb⟩ := ho.spec
  have hw1 : Holds w g (IterK it b c done :: MapK enc b l c :: θ) := (hw.sel s1).imp fun _ h => Sat.cons_imp (fun _ y => y) (fun _ y => Sat.perm s2.perm y) h
  have hr := Holds.block hw1
  have hm := MapK.block (hw1.sel (.there .here))
  have hnd : ((done ++ todo).map (·.2.2)).Nodup := (hp.map _).nodup_iff.1 hwf.1
  rw [List.map_append, List.nodup_append] at hnd
  have hold : ∀ x ∈ (kEs enc l).toList, x.born < c := fun e he => by
    simp only [kEs, List.mem_map] at he
    obtain ⟨y, hy, rfl⟩ := he
    exact hwf.2.1 y hy
  rcases run_next_at (P := P) (ty := o.type) hr hm hold (Nat.le_refl _) with ⟨hz, hrun⟩ | ⟨e, he, m, hmn, hrun⟩
  · have htodo : todo = [] := by
      cases todo with
      | nil => rfl
      | cons y ys =>
        have hyl : y ∈ l := hp.mem_iff.2 (by simp)
        have : kEnt enc y ∈ (leftOf (kEs enc l) (done.map (·.2.2)).toArray).toList := mem_leftOfK.2 ⟨y, hyl, rfl, fun h => hnd.2.2 _ h _ (by simp) rfl⟩
        rw [Array.eq_empty_of_size_eq_zero hz] at this
        cases this
    have hrun' : (execOp a.eval o).run P w = .ok (.value (.tuple #[.bool false])) w := by simp [execOp, hop, hf.knows x _ hx, hrun]
    refine O.fire hi (hg a hf) (notDefer_value hrun') hrun' ?_
    rw [Oper.uponIn_value, hdst]
    exact h0 htodo _ _ (hf.put hb) hd hw1
  · obtain ⟨y, hy, rfl, hns⟩ := mem_leftOfK.1 he
    have hyt : y ∈ todo := by
      rcases List.mem_append.1 (hp.mem_iff.1 hy) with h | h
      · exact absurd (List.mem_map.2 ⟨y, h, rfl⟩) hns
      · exact h
    obtain ⟨t1, t2, htt⟩ := List.append_of_mem hyt
    have hrun' : (execOp a.eval o).run P w = .ok (.value (.tuple #[.bool true, enc (y.1), y.2.1])) (({ w with drawn := m } : World).putObj it (.mapIter (some b) c ((done.map (·.2.2)).toArray.push y.2.2) c)) := by
      simp [execOp, hop, hf.knows x _ hx, hrun, kEnt]
    refine O.fire hi (hg a hf) (notDefer_value hrun') hrun' ?_
    rw [Oper.uponIn_value, hdst]
    have hw2 := (hw1.drewN m hmn).putObj (.mapIter (some b) c ((done.map (·.2.2)).toArray.push y.2.2) c)
    have hiter : IterK it b c (done ++ [y]) = blk it (.mapIter (some b) c ((done.map (·.2.2)).toArray.push y.2.2) c) := by simp [IterK]
    rw [← hiter] at hw2
    exact h1 y t1 t2 htt _ _ (hf.put hb) hd hw2
omit [DecidableEq K] in
theorem Does.entryK {done : List (KEnt K)} {y : KEnt K} {it : Nat} (hx : ev σ x = some (.pointer (some ⟨it, 0, none⟩))) (hwf : WfK l c) (hy : y ∈ l) (s1 : Sel η (IterK it b c (done ++ [y])) ζ) (s2 : Sel ζ (MapK enc b l c) θ) :
    Does P (.entry x) σ g η (.tuple #[enc (y.1), y.2.1]) η := fun o ρ w ho hkn hw => by
  have hw1 : Holds w g (IterK it b c (done ++ [y]) :: MapK enc b l c :: θ) := (hw.sel s1).imp fun _ h => Sat.cons_imp (fun _ y => y) (fun _ y => Sat.perm s2.perm y) h
  have hr := Holds.block hw1
  have hm := MapK.block (hw1.sel (.there .here))
  have hfind : (kEs enc l).toList.find? (·.born == (kEnt enc y).born) = some (kEnt enc y) := find_born _ _ (by simpa [kEs, kEnt, Function.comp_def] using hwf.1) (show kEnt enc y ∈ (kEs enc l).toList from List.mem_map.2 ⟨y, hy, rfl⟩)
  have hfind2 : (kEs enc l).find? (fun e => e.born == y.2.2) = some (kEnt enc y) := by rw [← Array.find?_toList]; exact hfind
  have hback : (((done ++ [y]).map (·.2.2)).toArray).back? = some y.2.2 := by simp
  refine ⟨w, ?_, hw⟩
  have : (Instr.entry (.pointer (some ⟨it, 0, none⟩))).run P w = .ok (.tuple #[enc (y.1), y.2.1]) w := by
    simp only [Instr.entry, getObj, Sem.run_bind, Sem.run, hr, Result.andThen, hback, hm, bne_self_eq_false, Bool.false_eq_true, if_false, hfind2]
    rfl
  simp [execOp, ho, hkn x _ hx, this]
end
/-- a pair of numbers, as an array -/
def enc2 (a : Int × Int) : Value := .agg #[.int .i64 a.1, .int .i64 a.2]
theorem run_part_int {P : Program} {ti : TypeId} (hi : P.underlying ti = some (.int .i64)) (cs : Array Value) (off : Nat) (v : Value) (hv : cs[off]? = some v) (w : World) : (part ti cs off).run P w = .ok v w := by
  simp [part, isAgg, run_underlying hi, hv]
theorem enc2_at (a : Int × Int) : (#[Value.int .i64 a.1, .int .i64 a.2] : Array Value)[0]? = some (.int .i64 a.1) ∧ (#[Value.int .i64 a.1, .int .i64 a.2] : Array Value)[1]? = some (.int .i64 a.2) := ⟨rfl, rfl⟩
theorem run_equal2 {P : Program} {tk ti : TypeId} (ht : P.underlying tk = some (.array 2 ti)) (hi : P.underlying ti = some (.int .i64)) (hsz : (P.info? ti).map (·.size) = some 1) (a b : Int × Int) (w : World) : (Op.equal tk (enc2 a) (enc2 b)).run P w = .ok (decide (a = b)) w := by
  have hpa0 := fun w => run_part_int hi _ 0 _ (enc2_at a).1 w
  have hpa1 := fun w => run_part_int hi _ 1 _ (enc2_at a).2 w
  have hpb0 := fun w => run_part_int hi _ 0 _ (enc2_at b).1 w
  have hpb1 := fun w => run_part_int hi _ 1 _ (enc2_at b).2 w
  have heq : ∀ (x y : Int) (w : World), (Op.equalIn 9999 ti (.int .i64 x) (.int .i64 y)).run P w = .ok (x == y) w := fun x y w => by
    show (Op.equalIn (9998 + 1) ti (.int .i64 x) (.int .i64 y)).run P w = _
    unfold Op.equalIn
    simp [run_underlying hi]
  show (Op.equalIn (9999 + 1) tk (enc2 a) (enc2 b)).run P w = _
  unfold Op.equalIn enc2
  simp only [Sem.run_bind, run_underlying ht, Result.andThen, run_sizeOf hsz]
  obtain ⟨a1, a2⟩ := a
  obtain ⟨b1, b2⟩ := b
  simp only at hpa0 hpa1 hpb0 hpb1
  by_cases h1 : a1 = b1
  · by_cases h2 : a2 = b2
    · subst h1; subst h2
      simp [Std.Legacy.Range.forIn_eq_forIn_range', List.range', hpa0, hpa1, heq]
    · subst h1
      have : (a2 == b2) = false := by simpa using h2
      simp [Std.Legacy.Range.forIn_eq_forIn_range', List.range', hpa0, hpa1, hpb0, hpb1, heq, h2]
  · have : (a1 == b1) = false := by simpa using h1
    simp [Std.Legacy.Range.forIn_eq_forIn_range', List.range', hpa0, hpb0, heq, h1]
theorem run_check2 {P : Program} {tk ti : TypeId} (ht : P.underlying tk = some (.array 2 ti)) (hi : P.underlying ti = some (.int .i64)) (hsz : (P.info? ti).map (·.size) = some 1) (e : Bool) (a : Int × Int) (w : World) : (Instr.checkKey e 10000 tk (enc2 a)).run P w = .ok () w := by
  have hpa0 := fun w => run_part_int hi _ 0 _ (enc2_at a).1 w
  have hpa1 := fun w => run_part_int hi _ 1 _ (enc2_at a).2 w
  have hc : ∀ (x : Int) (w : World), (Instr.checkKey e 9999 ti (.int .i64 x)).run P w = .ok () w := fun x w => by
    show (Instr.checkKey e (9998 + 1) ti (.int .i64 x)).run P w = _
    unfold Instr.checkKey
    simp [run_underlying hi]
  show (Instr.checkKey e (9999 + 1) tk (enc2 a)).run P w = _
  unfold Instr.checkKey enc2
  simp only [Sem.run_bind, run_underlying ht, Result.andThen]
  simp [Std.Legacy.Range.forIn_eq_forIn_range', List.range', run_sizeOf hsz, hpa0, hpa1, hc]
theorem keyOk2 {P : Program} {tk ti : TypeId} (ht : P.underlying tk = some (.array 2 ti)) (hi : P.underlying ti = some (.int .i64)) (hsz : (P.info? ti).map (·.size) = some 1) : KeyOk P tk enc2 :=
  KeyOk.of ht (fun _ _ => rfl) (run_equal2 ht hi hsz) (run_check2 ht hi hsz) fun a => by simp [enc2, Instr.sameBits]
omit [DecidableEq K] in
theorem WfK.nil : WfK ([] : List (KEnt K)) 0 := ⟨.nil, by simp, .nil⟩
theorem getK_none {m : List (KEnt K)} {k : K} : getK m k = none ↔ k ∉ m.map (·.1) := by
  induction m with
  | nil => simp [getK]
  | cons x m ih =>
    simp only [getK, List.map_cons, List.mem_cons]
    split
    · rename_i h; subst h; simp
    · rename_i h; rw [ih]; constructor
      · rintro h1 (h2 | h2)
        · exact h h2.symm
        · exact h1 h2
      · exact fun h1 h2 => h1 (.inr h2)
theorem getK_some {m : List (KEnt K)} {k : K} {v : Value} (h : getK m k = some v) : ∃ n, (k, v, n) ∈ m := by
  induction m with
  | nil => cases h
  | cons x m ih =>
    simp only [getK] at h
    split at h
    · rename_i e; cases h; subst e; exact ⟨_, List.mem_cons_self ..⟩
    · obtain ⟨n, hn⟩ := ih h; exact ⟨n, List.mem_cons_of_mem _ hn⟩
theorem getK_mem {m : List (KEnt K)} (h : (m.map (·.1)).Nodup) {x : KEnt K} (hx : x ∈ m) : getK m x.1 = some x.2.1 := by
  induction m with
  | nil => cases hx
  | cons y m ih =>
    rw [List.map_cons, List.nodup_cons] at h
    simp only [getK]
    rcases List.mem_cons.1 hx with rfl | hx
    · simp
    · rw [if_neg (fun e : y.1 = x.1 => h.1 (by rw [e]; exact List.mem_map.2 ⟨x, hx, rfl⟩)), ih h.2 hx]
theorem setK_keys (k : K) (v : Value) : ∀ m : List (KEnt K), (setK m k v).map (·.1) = m.map (·.1) ∧ (setK m k v).map (·.2.2) = m.map (·.2.2)
  | [] => ⟨rfl, rfl⟩
  | x :: m => by
    have ih := setK_keys k v m
    simp only [setK]
    split
    · rename_i h; simp [h]
    · simp [ih.1, ih.2]
theorem getK_set (k : K) (v : Value) (j : K) : ∀ m : List (KEnt K), getK (setK m k v) j = if j = k then (getK m k).map fun _ => v else getK m j
  | [] => by simp [setK, getK]
  | x :: m => by
    have ih := getK_set k v j m
    simp only [setK]
    by_cases e : x.1 = k
    · rw [if_pos e]
      simp only [getK]
      by_cases e2 : j = k
      · subst e2; simp [e]
      · rw [if_neg (fun h => e2 h.symm), if_neg e2, if_neg (fun h => e2 (h.symm.trans e))]
    · rw [if_neg e]
      simp only [getK]
      by_cases e2 : j = k
      · subst e2; rw [if_neg e, if_pos rfl, if_neg e, ih, if_pos rfl]
      · rw [if_neg e2, ih, if_neg e2]
theorem getK_append (m : List (KEnt K)) (k : K) (v : Value) (c : Nat) (j : K) (h : getK m k = none) : getK (m ++ [(k, v, c)]) j = if j = k then some v else getK m j := by
  induction m with
  | nil =>
    simp only [List.nil_append, getK]
    by_cases e : j = k
    · subst e; rw [if_pos rfl]
    · rw [if_neg (fun q => e q.symm), if_neg e]
  | cons x m ih =>
    simp only [getK] at h ⊢
    split at h
    · cases h
    · rename_i e
      simp only [List.cons_append, getK]
      by_cases e2 : j = k
      · subst e2; rw [if_neg e, ih h]; simp
      · by_cases e3 : x.1 = j
        · rw [if_pos e3, if_neg e2, if_pos e3]
        · rw [if_neg e3, ih h, if_neg e2, if_neg e2, if_neg e3]
theorem getK_put (m : List (KEnt K)) (c : Nat) (k : K) (v : Value) (j : K) : getK (putK m c k v) j = if j = k then some v else getK m j := by
  unfold putK
  split
  · rename_i h
    rw [getK_set]
    split
    · cases hg : getK m k with
      | none => rw [hg] at h; cases h
      | some u => rfl
    · rfl
  · rename_i h
    exact getK_append m k v c j (by simpa using h)
theorem putK_wf {m : List (KEnt K)} {c : Nat} (h : WfK m c) (k : K) (v : Value) : WfK (putK m c k v) (clkK m c k) := by
  unfold putK clkK
  split
  · rename_i hs
    obtain ⟨h1, h2⟩ := setK_keys k v m
    refine ⟨by rw [h2]; exact h.1, fun x hx => ?_, by rw [h1]; exact h.2.2⟩
    have : x.2.2 ∈ (setK m k v).map (·.2.2) := List.mem_map.2 ⟨x, hx, rfl⟩
    rw [h2] at this
    obtain ⟨y, hy, e⟩ := List.mem_map.1 this
    have := h.2.1 y hy
    omega
  · rename_i hs
    have hn : getK m k = none := by simpa using hs
    refine ⟨?_, fun x hx => ?_, ?_⟩
    · rw [List.map_append, List.nodup_append]
      refine ⟨h.1, by simp, fun a ha b hb => ?_⟩
      obtain ⟨y, hy, rfl⟩ := List.mem_map.1 ha
      have := h.2.1 y hy
      simp at hb; subst hb; omega
    · rcases List.mem_append.1 hx with hx | hx
      · have := h.2.1 x hx; omega
      · simp at hx; subst hx; simp
    · rw [List.map_append, List.nodup_append]
      refine ⟨h.2.2, by simp, fun a ha b hb => ?_⟩
      simp at hb; subst hb
      intro e; subst e
      exact getK_none.1 hn ha
theorem delK_sub (k : K) : ∀ m : List (KEnt K), (delK m k).Sublist m
  | [] => .slnil
  | x :: m => by
    simp only [delK]; split
    · exact List.sublist_cons_self _ _
    · exact (delK_sub k m).cons_cons _
theorem delK_wf {m : List (KEnt K)} {c : Nat} (h : WfK m c) (k : K) : WfK (delK m k) c :=
  ⟨((delK_sub k m).map _).nodup h.1, fun x hx => h.2.1 x ((delK_sub k m).subset hx), ((delK_sub k m).map _).nodup h.2.2⟩
theorem getK_del {m : List (KEnt K)} (h : (m.map (·.1)).Nodup) (k j : K) : getK (delK m k) j = if j = k then none else getK m j := by
  induction m with
  | nil => simp [delK, getK]
  | cons x m ih =>
    rw [List.map_cons, List.nodup_cons] at h
    simp only [delK]
    by_cases e : x.1 = k
    · rw [if_pos e]
      by_cases e2 : j = k
      · subst e2; rw [if_pos rfl]; exact getK_none.2 (e ▸ h.1)
      · rw [if_neg e2]; simp only [getK]; rw [if_neg (fun q => e2 (q.symm.trans e))]
    · rw [if_neg e]
      simp only [getK]
      by_cases e2 : j = k
      · subst e2; rw [if_neg e, ih h.2, if_pos rfl, if_pos rfl]
      · rw [ih h.2, if_neg e2, if_neg e2]
/-- what 'm[k] op= ..' lays ahead of its store -/
def ensK (l : List (KEnt K)) (c : Nat) (k : K) (z : Value) : List (KEnt K) := if (getK l k).isSome then l else l ++ [(k, z, c)]
def stampK (l : List (KEnt K)) (c : Nat) (k : K) : Nat := (((l.find? fun x => x.1 == k).map (·.2.2)).getD c)
theorem getK_find (l : List (KEnt K)) (k : K) : getK l k = (l.find? fun x => x.1 == k).map (·.2.1) := by
  induction l with
  | nil => rfl
  | cons x l ih =>
    simp only [getK, List.find?_cons]
    by_cases e : x.1 = k
    · simp [e]
    · have e2 : (x.1 == k) = false := by simpa using e
      rw [if_neg e, ih, e2]
theorem find_idx (l : List (KEnt K)) (k : K) : l[l.findIdx fun x => x.1 == k]? = l.find? fun x => x.1 == k := by
  induction l with
  | nil => rfl
  | cons x l ih =>
    by_cases e : x.1 = k
    · simp [List.findIdx_cons, e]
    · have e2 : (x.1 == k) = false := by simpa using e
      simp [List.findIdx_cons, e2, ih]
theorem kEs_key_modify (l : List (KEnt K)) (k : K) : (kEs enc l).modify (l.findIdx fun x => x.1 == k) (fun e => { e with key := enc k }) = kEs enc l := by
  apply Array.toList_inj.1
  rw [Array.toList_modify]
  simp only [kEs]
  induction l with
  | nil => rfl
  | cons x l ih =>
    by_cases e : x.1 = k
    · subst e; simp [List.findIdx_cons, kEnt]
    · have e2 : (x.1 == k) = false := by simpa using e
      simpa [List.findIdx_cons, e2] using ih
theorem run_mapEntry_key {P : Program} {t tk te : TypeId} {b c : Nat} {l : List (KEnt K)} {key : K} {w : World} (ht : P.underlying t = some (.map tk te)) (hk : KeyOk P tk enc) {zv : Value} (hz : (zeroValue te).run P w = .ok zv w) (hb : w.heap[b]? = some (.map (kEs enc l) c)) :
    (Instr.mapEntry t (.map (some b)) (enc key)).run P w = .ok (.tuple #[(getK l key).getD zv, .int .i64 (stampK l c key)]) (w.putObj b (.map (kEs enc (ensK l c key zv)) (clkK l c key))) := by
  have h1 := fun e => hk.check e key w
  have h2 := hk.find key l w
  simp only [Instr.mapEntry, Sem.run_bind, run_underlying ht, Result.andThen, MapKept.run_getObj_map hb]
  rw [h1]
  simp only
  rw [h2]
  have hf := getK_find l key
  cases hg : getK l key with
  | none =>
    have hfn : (l.find? fun x => x.1 == key) = none := by rw [hg] at hf; cases h : (l.find? fun x => x.1 == key) with
      | none => rfl
      | some v => rw [h] at hf; cases hf
    simp only [Option.map_none, Sem.run_bind, hz, Result.andThen, run_setObj_mapK _ hb, ensK, clkK, stampK, hg, hfn, Option.isSome_none, Bool.false_eq_true, if_false, Sem.run_pure]
    simp [kEs, kEnt, goInt]
  | some u =>
    obtain ⟨y, hy, hyk⟩ := getK_idx l key u hg
    have hfn : (l.find? fun x => x.1 == key) = some y := by rw [← find_idx]; exact hy
    have hy2 : (kEs enc l)[l.findIdx fun x => x.1 == key]? = some (kEnt enc y) := by simp [kEs, hy]
    have hkey : (((kEs enc l)[l.findIdx fun x => x.1 == key]?).map (·.key)).getD (enc key) = enc key := by rw [hy2]; simp [kEnt, hyk]
    simp only [Option.map_some, hkey, Instr.keyThatStays, hk.same key, if_true, Sem.run_bind, Sem.run_pure, Result.andThen, run_setObj_mapK _ hb, kEs_key_modify]
    simp only [hy2, ensK, clkK, stampK, hg, hfn, Option.isSome_some, Option.getD_some, Option.map_some, if_true]
    rfl
omit [DecidableEq K] in
theorem find_bornK : ∀ (l : List (KEnt K)) (x : KEnt K) (j : Nat), (l.map (·.2.2)).Nodup → l[j]? = some x → (kEs enc l).findIdx? (fun e => (e.born : Int) == (x.2.2 : Int)) = some j
  | [], _, _, _, h => by simp at h
  | y :: l, x, j, hn, h => by
    simp only [kEs, List.map_cons, List.findIdx?_toArray, List.findIdx?_cons]
    rw [List.map_cons, List.nodup_cons] at hn
    cases j with
    | zero => simp at h; subst h; simp [kEnt]
    | succ j =>
      have h' : l[j]? = some x := by simpa using h
      have ih := find_bornK l x j hn.2 h'
      simp only [kEs, List.findIdx?_toArray] at ih
      have hne : y.2.2 ≠ x.2.2 := fun e => hn.1 (e ▸ List.mem_map.2 ⟨x, List.mem_of_getElem? h', rfl⟩)
      have : ((y.2.2 : Int) == (x.2.2 : Int)) = false := by simp; omega
      simp only [kEnt, this, Bool.false_eq_true, if_false] at ih ⊢
      rw [ih]; rfl
theorem kEs_val_modify (l : List (KEnt K)) (k : K) (v : Value) (h : (getK l k).isSome) : (kEs enc l).modify (l.findIdx fun x => x.1 == k) (fun e => { e with val := v }) = kEs enc (setK l k v) := by
  apply Array.toList_inj.1
  rw [Array.toList_modify]
  simp only [kEs]
  induction l with
  | nil => cases h
  | cons x l ih =>
    by_cases e : x.1 = k
    · subst e; simp [List.findIdx_cons, kEnt, setK]
    · have e2 : (x.1 == k) = false := by simpa using e
      rw [getK, if_neg e] at h
      simpa [List.findIdx_cons, e2, setK, e] using ih h
theorem setK_ens (l : List (KEnt K)) (c : Nat) (k : K) (z v : Value) : setK (ensK l c k z) k v = putK l c k v ∧ (getK (ensK l c k z) k).isSome := by
  unfold ensK putK
  by_cases h : (getK l k).isSome
  · rw [if_pos h, if_pos h]; exact ⟨rfl, h⟩
  · rw [if_neg h, if_neg h]
    have hn : getK l k = none := by simpa using h
    refine ⟨?_, by rw [getK_append l k z c k hn, if_pos rfl]; rfl⟩
    clear h
    induction l with
    | nil => simp [setK]
    | cons x l ih =>
      by_cases e : x.1 = k
      · rw [getK, if_pos e] at hn; cases hn
      · rw [getK, if_neg e] at hn
        simp [setK, e, ih hn]
theorem stamp_ens {l : List (KEnt K)} {c : Nat} (k : K) (z : Value) : ∃ x, (ensK l c k z)[(ensK l c k z).findIdx fun x => x.1 == k]? = some x ∧ x.2.2 = stampK l c k := by
  rw [find_idx]
  unfold ensK stampK
  have hf := getK_find l k
  by_cases h : (getK l k).isSome
  · rw [if_pos h]
    cases hq : (l.find? fun x => x.1 == k) with
    | none => rw [hf, hq] at h; cases h
    | some y => exact ⟨y, rfl, rfl⟩
  · rw [if_neg h]
    have hq : (l.find? fun x => x.1 == k) = none := by
      cases hq : (l.find? fun x => x.1 == k) with
      | none => rfl
      | some y => rw [hf, hq] at h; exact absurd rfl h
    exact ⟨(k, z, c), by rw [List.find?_append, hq]; simp, by rw [hq]; rfl⟩
theorem ens_nodup {l : List (KEnt K)} {c : Nat} (h : WfK l c) (k : K) (z : Value) : ((ensK l c k z).map (·.2.2)).Nodup := by
  unfold ensK
  split
  · exact h.1
  · rw [List.map_append, List.nodup_append]
    refine ⟨h.1, by simp, fun a ha b hb => ?_⟩
    obtain ⟨y, hy, rfl⟩ := List.mem_map.1 ha
    have := h.2.1 y hy
    simp at hb; subst hb; omega
theorem run_entryStore_key {P : Program} {t : TypeId} {b c c' : Nat} {l : List (KEnt K)} {key : K} {w : World} {z v : Value} (hwf : WfK l c) (hb : w.heap[b]? = some (.map (kEs enc (ensK l c key z)) c')) :
    (Instr.entryStore t (.map (some b)) (.int .i64 (stampK l c key)) v).run P w = .ok () (w.putObj b (.map (kEs enc (putK l c key v)) c')) := by
  obtain ⟨x, hx, hs⟩ := stamp_ens (l := l) (c := c) key z
  have hf := find_bornK (enc := enc) _ x _ (ens_nodup hwf key z) hx
  obtain ⟨e1, e2⟩ := setK_ens l c key z v
  rw [hs] at hf
  simp only [Instr.entryStore, Sem.run_bind, Result.andThen, MapKept.run_getObj_map hb, asInt, asIntOf, Sem.run_pure, hf, run_setObj_mapK _ hb, kEs_val_modify _ _ _ e2, e1]
section
variable {ro : Option Nat} {P : Program} {fn : Func} {n : Nat} {R : Ending → World → Prop} {k : List Item} {σ : List (Nat × Value)} {D : List Deferred} {g : Gr} {η ζ θ : List SProp} {ops : Array Oper} {i d : Nat} {ls : List Nat}
  {t tk te : TypeId} {x y z : Operand} {b c c' : Nat} {l : List (KEnt K)} {key : K} {w : World} {v zv : Value}
theorem DoesE.mapEntryK (ht : P.underlying t = some (.map tk te)) (hk : KeyOk P tk enc) (hz : ∀ w, (zeroValue te).run P w = .ok zv w) (hx : ev σ x = some (.map (some b))) (hy : ev σ y = some (enc key)) (hs : Sel η (MapK enc b l c) ζ) :
    DoesE P (.mapEntry t x y) σ g η fun u η' => u = .tuple #[(getK l key).getD zv, .int .i64 (stampK l c key)] ∧ η' = MapK enc b (ensK l c key zv) (clkK l c key) :: ζ :=
  fun o ρ w ho hkn hw => by
    have hw1 := hw.sel hs
    refine ⟨_, _, _, ⟨rfl, rfl⟩, ?_, hw1.putObj _⟩
    have := run_mapEntry_key (P := P) (key := key) (zv := zv) ht hk (hz w) hw1.block
    simp [execOp, ho, hkn x _ hx, hkn y _ hy, this]
theorem DoesU.entryStoreK (hwf : WfK l c) (hx : ev σ x = some (.map (some b))) (hy : ev σ y = some (.int .i64 (stampK l c key))) (hz : ev σ z = some v) (hs : Sel η (MapK enc b (ensK l c key zv) c') ζ) :
    DoesU P (.entryStore t x y z) σ g η (MapK enc b (putK l c key v) c' :: ζ) :=
  fun o ρ w ho hkn hw => by
    have hw1 := hw.sel hs
    refine ⟨_, ?_, hw1.putObj _⟩
    have := run_entryStore_key (P := P) (t := t) (enc := enc) (key := key) (z := zv) (v := v) hwf hw1.block
    simp [execOp, ho, hkn x _ hx, hkn y _ hy, hkn z _ hz, this]
theorem ODg.mapUpdateK {fl : Bool} {j : Nat} {l' : List Nat} (ho : opAtU ops j = some (.mapUpdate t x y z)) (hd : hdOk fl ops j l' = true) (ht : P.underlying t = some (.map tk te)) (hk : KeyOk P tk enc) (hx : ev σ x = some (.map (some b))) (hy : ev σ y = some (enc key)) (hz : ev σ z = some v) (hs : Sel η (MapK enc b l c) ζ)
    (h : OD P fn n R ops k D g l' σ (MapK enc b (putK l c key v) (clkK l c key) :: ζ)) : ODx P fn n R ops k D g fl (j :: l') σ η :=
  ODx.perm hs.perm (ODg.loudU (η := MapK enc b l c :: ζ) (η' := MapK enc b (putK l c key v) (clkK l c key) :: ζ) ho rfl hd (fun _ => .mapUpdateK ht hk hx hy hz Sel.here) h)
theorem OD.mapUpdateK {j : Nat} {l' : List Nat} (ho : opAtU ops j = some (.mapUpdate t x y z)) (hd : descOk ops [j] l' = true) (ht : P.underlying t = some (.map tk te)) (hk : KeyOk P tk enc) (hx : ev σ x = some (.map (some b))) (hy : ev σ y = some (enc key)) (hz : ev σ z = some v) (hs : Sel η (MapK enc b l c) ζ)
    (h : OD P fn n R ops k D g l' σ (MapK enc b (putK l c key v) (clkK l c key) :: ζ)) : OD P fn n R ops k D g (j :: l') σ η := ODg.mapUpdateK (fl := false) ho (by simpa [hdOk] using hd) ht hk hx hy hz hs h
theorem OD.entryStoreK {j : Nat} {l' : List Nat} (ho : opAtU ops j = some (.entryStore t x y z)) (hd : descOk ops [j] l' = true) (hwf : WfK l c) (hx : ev σ x = some (.map (some b))) (hy : ev σ y = some (.int .i64 (stampK l c key))) (hz : ev σ z = some v) (hs : Sel η (MapK enc b (ensK l c key zv) c') ζ)
    (h : OD P fn n R ops k D g l' σ (MapK enc b (putK l c key v) c' :: ζ)) : OD P fn n R ops k D g (j :: l') σ η :=
  ODx.perm hs.perm (ODg.loudU (fl := false) (η := MapK enc b (ensK l c key zv) c' :: ζ) (η' := MapK enc b (putK l c key v) c' :: ζ) ho rfl (by simpa [hdOk] using hd) (fun _ => .entryStoreK hwf hx hy hz Sel.here) h)
theorem OD.mapEntryK {j : Nat} {l' : List Nat} (ho : Fires ops j n σ d (.mapEntry t x y)) (hd : descOk ops [j] l' = true) (ht : P.underlying t = some (.map tk te)) (hk : KeyOk P tk enc) (hz : ∀ w, (zeroValue te).run P w = .ok zv w) (hx : ev σ x = some (.map (some b))) (hy : ev σ y = some (enc key)) (hs : Sel η (MapK enc b l c) ζ)
    (h : OD P fn n R ops k D g l' ((d, .tuple #[(getK l key).getD zv, .int .i64 (stampK l c key)]) :: σ) (MapK enc b (ensK l c key zv) (clkK l c key) :: ζ)) : OD P fn n R ops k D g (j :: l') σ η :=
  ODx.perm hs.perm (OD.loudE (η := MapK enc b l c :: ζ) (K := fun u η' => u = .tuple #[(getK l key).getD zv, .int .i64 (stampK l c key)] ∧ η' = MapK enc b (ensK l c key zv) (clkK l c key) :: ζ) ho rfl hd
    (fun ζ' => (DoesE.mapEntryK ht hk hz hx hy Sel.here).imp fun _ _ ⟨h1, h2⟩ => ⟨_, ⟨h1, rfl⟩, h2⟩) (by rintro _ _ ⟨rfl, rfl⟩; exact h))
theorem ODg.deleteK {fl : Bool} {l' : List Nat} {t2 : TypeId} (ho : opAtU ops i = some (.call ⟨.builtin .delete, #[x, y], #[t, t2]⟩)) (hd : hdOk fl ops i l' = true) (ht : P.underlying t = some (.map tk te)) (hk : KeyOk P tk enc) (hx : ev σ x = some (.map (some b))) (hy : ev σ y = some (enc key)) (hs : Sel η (MapK enc b l c) ζ)
    (h : OD P fn n R ops k D g l' σ (MapK enc b (delK l key) c :: ζ)) : ODx P fn n R ops k D g fl (i :: l') σ η :=
  ODx.perm hs.perm (ODg.loudV (η := MapK enc b l c :: ζ) (η' := MapK enc b (delK l key) c :: ζ) ho rfl hd (fun ζ' o ρ w hop hkn hw => by
    have hw1 : Holds w g (MapK enc b l c :: (ζ ++ ζ')) := hw
    refine ⟨_, .value (.tuple #[]), ?_, .inr ⟨_, rfl⟩, hw1.putObj _⟩
    have := run_delete_key (P := P) (key := key) (t2 := t2) (ty := o.type) ht hk hw1.block
    simp [execOp, hop, resolve, invoke, builtin, hkn x _ hx, hkn y _ hy, this]) h)
theorem OD.deleteK {l' : List Nat} {t2 : TypeId} (ho : opAtU ops i = some (.call ⟨.builtin .delete, #[x, y], #[t, t2]⟩)) (hd : descOk ops [i] l' = true) (ht : P.underlying t = some (.map tk te)) (hk : KeyOk P tk enc) (hx : ev σ x = some (.map (some b))) (hy : ev σ y = some (enc key)) (hs : Sel η (MapK enc b l c) ζ)
    (h : OD P fn n R ops k D g l' σ (MapK enc b (delK l key) c :: ζ)) : OD P fn n R ops k D g (i :: l') σ η := ODg.deleteK (fl := false) ho (by simpa [hdOk] using hd) ht hk hx hy hs h
end
theorem Does.build2 {P : Program} {σ : List (Nat × Value)} {g : Gr} {η : List SProp} {t e : TypeId} {x y : Operand} {a b : Int} (ht : P.underlying t = some (.array 2 e)) (he : (P.info? e).map (·.size) = some 1) (hz : ∀ w, (zeroValue t).run P w = .ok (.agg #[.int .i64 0, .int .i64 0]) w)
    (hx : ev σ x = some (.int .i64 a)) (hy : ev σ y = some (.int .i64 b)) : Does P (.build t #[(0, x), (1, y)]) σ g η (.agg #[.int .i64 a, .int .i64 b]) η := .run fun o ρ w ho hk => by
  simp [execOp, ho, hk x _ hx, hk y _ hy, Instr.build, hz, run_underlying ht, run_sizeOf he, Instr.fill, Value.cells]
theorem Does.eql2 {P : Program} {σ : List (Nat × Value)} {g : Gr} {η : List SProp} {t e u : TypeId} {x y : Operand} {a b c d : Int} (ht : P.underlying t = some (.array 2 e)) (hi : P.underlying e = some (.int .i64)) (he : (P.info? e).map (·.size) = some 1) (hgd : P.eqGuardType P.depth t = false)
    (hx : ev σ x = some (.agg #[.int .i64 a, .int .i64 b])) (hy : ev σ y = some (.agg #[.int .i64 c, .int .i64 d])) : Does P (.binOp .eql t x y u) σ g η (.bool (decide ((a, b) = (c, d)))) η := .run fun o ρ w ho hk => by
  have h := run_equal2 ht hi he (a, b) (c, d) w
  simp only [enc2] at h
  simp [execOp, ho, hk x _ hx, hk y _ hy, eqGuard, Go.binOp, h, hgd]
theorem Does.neq2 {P : Program} {σ : List (Nat × Value)} {g : Gr} {η : List SProp} {t e u : TypeId} {x y : Operand} {a b c d : Int} (ht : P.underlying t = some (.array 2 e)) (hi : P.underlying e = some (.int .i64)) (he : (P.info? e).map (·.size) = some 1) (hgd : P.eqGuardType P.depth t = false)
    (hx : ev σ x = some (.agg #[.int .i64 a, .int .i64 b])) (hy : ev σ y = some (.agg #[.int .i64 c, .int .i64 d])) : Does P (.binOp .neq t x y u) σ g η (.bool (!decide ((a, b) = (c, d)))) η := .run fun o ρ w ho hk => by
  have h := run_equal2 ht hi he (a, b) (c, d) w
  simp only [enc2] at h
  simp [execOp, ho, hk x _ hx, hk y _ hy, eqGuard, Go.binOp, h, hgd]
/-- texts as keys -/
def encS (k : List UInt8) : Value := .string (str k)
theorem findNow_keyS (k : List UInt8) : ∀ (l : List (KEnt (List UInt8))) (i : Nat), Instr.findNow .string (encS k) (l.map (kEnt encS)) i = some ((getK l k).map fun v => (i + (l.findIdx fun x => @BEq.beq _ instBEqOfDecidableEq x.1 k), v))
  | [], _ => rfl
  | x :: l, i => by
    have ih := findNow_keyS k l (i + 1)
    simp only [List.map_cons, Instr.findNow, kEnt, encS, Instr.sameNow] at ih ⊢
    by_cases h : x.1 = k
    · subst h; simp [getK, str_beq, List.findIdx_cons]
    · have hne : (str k == str x.1) = false := by
        rw [str_beq]; exact decide_eq_false fun e => h e.symm
      rw [hne]
      simp only
      rw [ih]
      have h2 : (@BEq.beq _ instBEqOfDecidableEq x.1 k) = false := by simpa using h
      simp only [getK, if_neg h, List.findIdx_cons, h2]
      cases getK l k with
      | none => rfl
      | some v => simp; omega
theorem keyOkS {P : Program} {tk : TypeId} (hk : P.underlying tk = some .string) : KeyOk P tk encS where
  find k l w := by
    have h := findNow_keyS k l 0
    simp only [kEs, Instr.findKey, Sem.run_bind, run_underlying hk, Result.andThen, h, Nat.zero_add, Sem.run_pure]
  check e k w := run_checkKey_str hk e 9999
  same k := by
    show (str k == str k) = true
    rw [str_beq]; simp
end Go.Sp
