import Derived.Test.YtodhbhanmdfdeaaSpDisk
/- Maps from strings to strings. -/
namespace Go.Sp
/-- a key, what is there, when it was laid -/
abbrev SS := List (List UInt8 × List UInt8 × Nat)
def sT (x : List UInt8 × List UInt8 × Nat) : SEnt := (x.1, .string (str x.2.1), x.2.2)
def strM (m : SS) : List SEnt := m.map sT
def getT : SS → List UInt8 → Option (List UInt8)
  | [], _ => none
  | x :: l, k => if x.1 = k then some x.2.1 else getT l k
def setT : SS → List UInt8 → List UInt8 → SS
  | [], _, _ => []
  | x :: l, k, v => if x.1 = k then (k, v, x.2.2) :: l else x :: setT l k v
def putT (l : SS) (c : Nat) (k v : List UInt8) : SS := if (getT l k).isSome then setT l k v else l ++ [(k, v, c)]
def clkT (l : SS) (c : Nat) (k : List UInt8) : Nat := if (getT l k).isSome then c else c + 1
def delT : SS → List UInt8 → SS
  | [], _ => []
  | x :: l, k => if x.1 = k then l else x :: delT l k
theorem getS_strM (k : List UInt8) : ∀ m : SS, getS (strM m) k = (getT m k).map fun v => .string (str v)
  | [] => rfl
  | x :: m => by
    have ih := getS_strM k m
    simp only [strM, List.map_cons, getS, getT, sT] at ih ⊢
    split <;> simp [ih]
theorem setS_strM (k v : List UInt8) : ∀ m : SS, setS (strM m) k (.string (str v)) = strM (setT m k v)
  | [] => rfl
  | x :: m => by
    have ih := setS_strM k v m
    simp only [strM, List.map_cons, setS, setT, sT] at ih ⊢
    split
    · simp [sT]
    · simp [sT, ih]
theorem delS_strM (k : List UInt8) : ∀ m : SS, delS (strM m) k = strM (delT m k)
  | [] => rfl
  | x :: m => by
    have ih := delS_strM k m
    simp only [strM, List.map_cons, delS, delT, sT] at ih ⊢
    split
    · rfl
    · simp [sT, ih]
theorem putS_strM (m : SS) (c : Nat) (k v : List UInt8) : putS (strM m) c k (.string (str v)) = strM (putT m c k v) := by
  unfold putS putT
  rw [getS_strM, Option.isSome_map]
  split
  · exact setS_strM k v m
  · simp [strM, sT]
theorem clkS_strM (m : SS) (c : Nat) (k : List UInt8) : clkS (strM m) c k = clkT m c k := by unfold clkS clkT; rw [getS_strM, Option.isSome_map]
def WfT (m : SS) (c : Nat) : Prop := (m.map (·.2.2)).Nodup ∧ (∀ x ∈ m, x.2.2 < c) ∧ (m.map (·.1)).Nodup
theorem WfT.wfS {m : SS} {c : Nat} (h : WfT m c) : WfS (strM m) c := by
  refine ⟨?_, ?_, ?_⟩
  · simpa [strM, sT, Function.comp_def] using h.1
  · intro x hx
    obtain ⟨y, hy, rfl⟩ := List.mem_map.1 hx
    exact h.2.1 y hy
  · simpa [strM, sT, Function.comp_def] using h.2.2
theorem WfT.nil : WfT [] 0 := ⟨.nil, by simp, .nil⟩
theorem getT_none {m : SS} {k : List UInt8} : getT m k = none ↔ k ∉ m.map (·.1) := by
  induction m with
  | nil => simp [getT]
  | cons x m ih =>
    simp only [getT, List.map_cons, List.mem_cons]
    split
    · rename_i h; subst h; simp
    · rename_i h; rw [ih]; constructor
      · rintro h1 (h2 | h2)
        · exact h h2.symm
        · exact h1 h2
      · exact fun h1 h2 => h1 (.inr h2)
theorem getT_some {m : SS} {k v : List UInt8} (h : getT m k = some v) : ∃ n, (k, v, n) ∈ m := by
  induction m with
  | nil => cases h
  | cons x m ih =>
    simp only [getT] at h
    split at h
    · rename_i e; cases h; subst e; exact ⟨_, List.mem_cons_self ..⟩
    · obtain ⟨n, hn⟩ := ih h; exact ⟨n, List.mem_cons_of_mem _ hn⟩
theorem getT_mem {m : SS} (h : (m.map (·.1)).Nodup) {x : List UInt8 × List UInt8 × Nat} (hx : x ∈ m) : getT m x.1 = some x.2.1 := by
  induction m with
  | nil => cases hx
  | cons y m ih =>
    rw [List.map_cons, List.nodup_cons] at h
    simp only [getT]
    rcases List.mem_cons.1 hx with rfl | hx
    · simp
    · rw [if_neg (fun e : y.1 = x.1 => h.1 (by rw [e]; exact List.mem_map.2 ⟨x, hx, rfl⟩)), ih h.2 hx]
theorem setT_keys (k v : List UInt8) : ∀ m : SS, (setT m k v).map (·.1) = m.map (·.1) ∧ (setT m k v).map (·.2.2) = m.map (·.2.2)
  | [] => ⟨rfl, rfl⟩
  | x :: m => by
    have ih := setT_keys k v m
    simp only [setT]
    split
    · rename_i h; simp [h]
    · simp [ih.1, ih.2]
theorem getT_set (k v : List UInt8) (j : List UInt8) : ∀ m : SS, getT (setT m k v) j = if j = k then (getT m k).map fun _ => v else getT m j
  | [] => by simp [setT, getT]
  | x :: m => by
    have ih := getT_set k v j m
    simp only [setT]
    by_cases e : x.1 = k
    · rw [if_pos e]
      simp only [getT]
      by_cases e2 : j = k
      · subst e2; simp [e]
      · rw [if_neg (fun h => e2 h.symm), if_neg e2, if_neg (fun h => e2 (h.symm.trans e))]
    · rw [if_neg e]
      simp only [getT]
      by_cases e2 : j = k
      · subst e2; rw [if_neg e, if_pos rfl, if_neg e, ih, if_pos rfl]
      · rw [if_neg e2, ih, if_neg e2]
theorem getT_append (m : SS) (k v : List UInt8) (c : Nat) (j : List UInt8) (h : getT m k = none) : getT (m ++ [(k, v, c)]) j = if j = k then some v else getT m j := by
  induction m with
  | nil =>
    simp only [List.nil_append, getT]
    by_cases e : j = k
    · subst e; rw [if_pos rfl]
    · rw [if_neg (fun q => e q.symm), if_neg e]
  | cons x m ih =>
    simp only [getT] at h ⊢
    split at h
    · cases h
    · rename_i e
      simp only [List.cons_append, getT]
      by_cases e2 : j = k
      · subst e2; rw [if_neg e, ih h]; simp
      · by_cases e3 : x.1 = j
        · rw [if_pos e3, if_neg e2, if_pos e3]
        · rw [if_neg e3, ih h, if_neg e2, if_neg e2, if_neg e3]
theorem getT_put (m : SS) (c : Nat) (k v j : List UInt8) : getT (putT m c k v) j = if j = k then some v else getT m j := by
  unfold putT
  split
  · rename_i h
    rw [getT_set]
    split
    · cases hg : getT m k with
      | none => rw [hg] at h; cases h
      | some u => rfl
    · rfl
  · rename_i h
    exact getT_append m k v c j (by simpa using h)
theorem putT_wf {m : SS} {c : Nat} (h : WfT m c) (k v : List UInt8) : WfT (putT m c k v) (clkT m c k) := by
  unfold putT clkT
  split
  · rename_i hs
    obtain ⟨h1, h2⟩ := setT_keys k v m
    refine ⟨by rw [h2]; exact h.1, fun x hx => ?_, by rw [h1]; exact h.2.2⟩
    have : x.2.2 ∈ (setT m k v).map (·.2.2) := List.mem_map.2 ⟨x, hx, rfl⟩
    rw [h2] at this
    obtain ⟨y, hy, e⟩ := List.mem_map.1 this
    have := h.2.1 y hy
    omega
  · rename_i hs
    have hn : getT m k = none := by simpa using hs
    refine ⟨?_, fun x hx => ?_, ?_⟩
    · rw [List.map_append, List.nodup_append]
      refine ⟨h.1, by simp, fun a ha b hb => ?_⟩
      obtain ⟨y, hy, rfl⟩ := List.mem_map.1 ha
      have := h.2.1 y hy
      simp at hb; subst hb; omega
    · rcases List.mem_append.1 hx with hx | hx
      · have := h.2.1 x hx; omega
      · simp at hx; subst hx; simp
    · rw [List.map_append, List.nodup_append]
      refine ⟨h.2.2, by simp, fun a ha b hb => ?_⟩
      simp at hb; subst hb
      intro e; subst e
      exact getT_none.1 hn ha
theorem delT_sub (k : List UInt8) : ∀ m : SS, (delT m k).Sublist m
  | [] => .slnil
  | x :: m => by
    simp only [delT]; split
    · exact List.sublist_cons_self _ _
    · exact (delT_sub k m).cons_cons _
theorem delT_wf {m : SS} {c : Nat} (h : WfT m c) (k : List UInt8) : WfT (delT m k) c :=
  ⟨((delT_sub k m).map _).nodup h.1, fun x hx => h.2.1 x ((delT_sub k m).subset hx), ((delT_sub k m).map _).nodup h.2.2⟩
theorem getT_del {m : SS} (h : (m.map (·.1)).Nodup) (k j : List UInt8) : getT (delT m k) j = if j = k then none else getT m j := by
  induction m with
  | nil => simp [delT, getT]
  | cons x m ih =>
    rw [List.map_cons, List.nodup_cons] at h
    simp only [delT]
    by_cases e : x.1 = k
    · rw [if_pos e]
      by_cases e2 : j = k
      · subst e2; rw [if_pos rfl]; exact getT_none.2 (e ▸ h.1)
      · rw [if_neg e2]; simp only [getT]; rw [if_neg (fun q => e2 (q.symm.trans e))]
    · rw [if_neg e]
      simp only [getT]
      by_cases e2 : j = k
      · subst e2; rw [if_neg e, ih h.2, if_pos rfl, if_pos rfl]
      · rw [ih h.2, if_neg e2, if_neg e2]
/-- how many bytes there are -/
def sumT (m : SS) : Nat := (m.map fun x => x.2.1.length).sum
theorem sumT_perm {m m' : SS} (h : m.Perm m') : sumT m = sumT m' := (h.map _).sum_nat
theorem sumT_append (m m' : SS) : sumT (m ++ m') = sumT m + sumT m' := by simp [sumT]
theorem sumT_put (m : SS) (c : Nat) (k v : List UInt8) : sumT (putT m c k v) + ((getT m k).getD []).length = sumT m + v.length := by
  unfold putT
  split
  · rename_i h
    clear c
    induction m with
    | nil => cases h
    | cons x m ih =>
      simp only [getT, setT] at h ⊢
      split
      · simp [sumT]; omega
      · rename_i e
        rw [if_neg e] at h
        have := ih h
        simp only [sumT, List.map_cons, List.sum_cons] at this ⊢
        omega
  · rename_i h
    have hn : getT m k = none := by simpa using h
    rw [hn, sumT_append]; simp [sumT]
theorem sumT_del (m : SS) (k : List UInt8) : sumT (delT m k) + ((getT m k).getD []).length = sumT m := by
  induction m with
  | nil => rfl
  | cons x m ih =>
    simp only [delT, getT]
    split
    · simp [sumT]; omega
    · simp only [sumT, List.map_cons, List.sum_cons] at ih ⊢; omega
/-- a map of one's own -/
def MapT (b : Nat) (m : SS) (c : Nat) : SProp := MapP b (strM m) c
def IterT (it b c : Nat) (done : SS) : SProp := IterP it b c (strM done)
section
variable {ro : Option Nat} {P : Program} {fn : Func} {n : Nat} {R : Ending → World → Prop} {k : List Item} {σ : List (Nat × Value)} {D : List Deferred} {g : Gr} {η ζ θ : List SProp} {ops : Array Oper} {i d : Nat} {ls : List Nat}
  {t tk te : TypeId} {x y z : Operand} {b c : Nat} {m : SS} {key v : List UInt8} {w : World}
theorem Does.lookupT {kb : Bool} (ht : P.underlying t = some (.map tk te)) (hk : P.underlying tk = some .string) (hz : zeroOf P te = some (.string (str []))) (hx : ev σ x = some (.map (some b))) (hy : ev σ y = some (.string (str key))) (hs : Sel η (MapT b m c) ζ) :
    Does P (.lookup t x y kb) σ g η (if kb then .tuple #[.string (str ((getT m key).getD [])), .bool (getT m key).isSome] else .string (str ((getT m key).getD []))) η := by
  have := Does.lookupS (P := P) (kb := kb) (key := key) (c := c) (g := g) ht hk (fun w => run_zeroOf hz w) hx hy hs
  rw [getS_strM, Option.isSome_map] at this
  cases hg : getT m key with
  | none => rw [hg] at this; exact this
  | some u => rw [hg] at this; exact this
theorem DoesE.makeMapT : DoesE P (.makeMap t none) σ g η fun v η' => ∃ b, v = .map (some b) ∧ η' = MapT b [] 0 :: η := .makeMap'
theorem DoesU.mapUpdateT (ht : P.underlying t = some (.map tk te)) (hk : P.underlying tk = some .string) (hx : ev σ x = some (.map (some b))) (hy : ev σ y = some (.string (str key))) (hz : ev σ z = some (.string (str v))) (hs : Sel η (MapT b m c) ζ) :
    DoesU P (.mapUpdate t x y z) σ g η (MapT b (putT m c key v) (clkT m c key) :: ζ) := by
  have := DoesU.mapUpdateS (P := P) (g := g) (c := c) ht hk hx hy hz hs
  rw [putS_strM, clkS_strM] at this
  exact this
theorem O.deleteT {t2 : TypeId} (ho : opAtU ops i = some (.call ⟨.builtin .delete, #[x, y], #[t, t2]⟩)) (ht : P.underlying t = some (.map tk te)) (hk : P.underlying tk = some .string) (hx : ev σ x = some (.map (some b))) (hy : ev σ y = some (.string (str key))) (hs : Sel η (MapT b m c) ζ)
    (h : O ro P fn n R ops ls k σ D g (MapT b (delT m key) c :: ζ)) : O ro P fn n R ops (i :: ls) k σ D g η :=
  O.deleteS ho ht hk hx hy hs (by rw [delS_strM]; exact h)
theorem DoesE.rangeT (ht : P.underlying t = some (.map tk te)) (hx : ev σ x = some (.map (some b))) (hs : Sel η (MapT b m c) ζ) : DoesE P (.range t x) σ g η fun v η' => ∃ it, v = .pointer (some ⟨it, 0, none⟩) ∧ η' = IterT it b c [] :: η := .rangeS ht hx hs
theorem O.nextT {done todo : SS} {it : Nat} (ho : Fires ops i n σ d (.next x false)) (hx : ev σ x = some (.pointer (some ⟨it, 0, none⟩))) (hwf : WfT m c) (hp : m.Perm (done ++ todo)) (s1 : Sel η (IterT it b c done) ζ) (s2 : Sel ζ (MapT b m c) θ)
    (h0 : todo = [] → O ro P fn n R ops ls k ((d, .tuple #[.bool false]) :: σ) D g (IterT it b c done :: MapT b m c :: θ))
    (h1 : ∀ x t1 t2, todo = t1 ++ x :: t2 → O ro P fn n R ops ls k ((d, .tuple #[.bool true, .string (str x.1), .string (str x.2.1)]) :: σ) D g (IterT it b c (done ++ [x]) :: MapT b m c :: θ)) : O ro P fn n R ops (i :: ls) k σ D g η := by
  refine O.nextS (todo := strM todo) ho hx hwf.wfS (by simpa [strM] using hp.map sT) s1 s2 (fun h => h0 (by simpa [strM] using h)) fun y t1 t2 hy => ?_
  obtain ⟨u1, u2', e1, e2, e3⟩ := List.map_eq_append_iff.1 hy
  obtain ⟨z, u2, e4, e5, e6⟩ := List.map_eq_cons_iff.1 e3
  subst e5
  have := h1 z u1 u2 (by rw [e1, e4])
  have hst : strM (done ++ [z]) = strM done ++ [sT z] := by simp [strM]
  unfold IterT MapT at this
  rw [hst] at this
  exact this
theorem Does.entryT {done : SS} {y : List UInt8 × List UInt8 × Nat} {it : Nat} (hx : ev σ x = some (.pointer (some ⟨it, 0, none⟩))) (hwf : WfT m c) (hy : y ∈ m) (s1 : Sel η (IterT it b c (done ++ [y])) ζ) (s2 : Sel ζ (MapT b m c) θ) :
    Does P (.entry x) σ g η (.tuple #[.string (str y.1), .string (str y.2.1)]) η := by
  have h : IterT it b c (done ++ [y]) = IterP it b c (strM done ++ [sT y]) := by simp [IterT, strM]
  rw [h] at s1
  exact Does.entryS hx hwf.wfS (List.mem_map.2 ⟨y, hy, rfl⟩) s1 s2
/-- what only reads, but whose place in the order counts -/
theorem ODg.doesL {fl : Bool} {op : Op} {v : Value} {l : List Nat} (ho : Fires ops i n σ d op) (hna : isAlloc op = false) (hd : hdOk fl ops i l = true) (hdo : ∀ ζ, Does P op σ g (η ++ ζ) v (η ++ ζ)) (h : OD P fn n R ops k D g l ((d, v) :: σ) η) : ODx P fn n R ops k D g fl (i :: l) σ η :=
  ODx.head hd (.loudE (K := fun v' η' => v' = v ∧ η' = η) ho hna (fun ζ o ρ w h1 h2 h3 => let ⟨w', a, b⟩ := hdo ζ o ρ w h1 h2 h3; ⟨v, w', η ++ ζ, ⟨η, ⟨rfl, rfl⟩, rfl⟩, a, b⟩) (by rintro _ _ ⟨rfl, rfl⟩; exact h))
theorem OD.doesL {op : Op} {v : Value} {l : List Nat} (ho : Fires ops i n σ d op) (hna : isAlloc op = false) (hd : descOk ops [i] l = true) (hdo : ∀ ζ, Does P op σ g (η ++ ζ) v (η ++ ζ)) (h : OD P fn n R ops k D g l ((d, v) :: σ) η) : OD P fn n R ops k D g (i :: l) σ η :=
  ODg.doesL (fl := false) ho hna (by simpa [hdOk] using hd) hdo h
theorem ODt.doesL {op : Op} {v : Value} {l : List Nat} (ho : Fires ops i n σ d op) (hna : isAlloc op = false) (_ : true = true) (hdo : ∀ ζ, Does P op σ g (η ++ ζ) v (η ++ ζ)) (h : OD P fn n R ops k D g l ((d, v) :: σ) η) : ODx P fn n R ops k D g true (i :: l) σ η := ODg.doesL (fl := true) ho hna rfl hdo h
theorem ODg.mapUpdateT {fl : Bool} {j : Nat} {l : List Nat} (ho : opAtU ops j = some (.mapUpdate t x y z)) (hd : hdOk fl ops j l = true) (ht : P.underlying t = some (.map tk te)) (hk : P.underlying tk = some .string) (hx : ev σ x = some (.map (some b))) (hy : ev σ y = some (.string (str key))) (hz : ev σ z = some (.string (str v))) (hs : Sel η (MapT b m c) ζ)
    (h : OD P fn n R ops k D g l σ (MapT b (putT m c key v) (clkT m c key) :: ζ)) : ODx P fn n R ops k D g fl (j :: l) σ η :=
  ODx.perm hs.perm (ODg.loudU (η := MapT b m c :: ζ) (η' := MapT b (putT m c key v) (clkT m c key) :: ζ) ho rfl hd (fun _ => .mapUpdateT ht hk hx hy hz Sel.here) h)
theorem OD.mapUpdateT {j : Nat} {l : List Nat} (ho : opAtU ops j = some (.mapUpdate t x y z)) (hd : descOk ops [j] l = true) (ht : P.underlying t = some (.map tk te)) (hk : P.underlying tk = some .string) (hx : ev σ x = some (.map (some b))) (hy : ev σ y = some (.string (str key))) (hz : ev σ z = some (.string (str v))) (hs : Sel η (MapT b m c) ζ)
    (h : OD P fn n R ops k D g l σ (MapT b (putT m c key v) (clkT m c key) :: ζ)) : OD P fn n R ops k D g (j :: l) σ η := ODg.mapUpdateT (fl := false) ho (by simpa [hdOk] using hd) ht hk hx hy hz hs h
end
end Go.Sp
