import Derived.Test.YthaebmfgelaleaaGreatSpMapK
import Derived.Test.YthaebmfgelaleaaGreatSpLast
/- Rows of packets, by links: what a map of such has. -/
namespace Go.Sp
section
variable {K V : Type} [DecidableEq K]
def lkA : List (K × V) → K → Option V
  | [], _ => none
  | x :: l, k => if x.1 = k then some x.2 else lkA l k
def setA : List (K × V) → K → V → List (K × V)
  | [], _, _ => []
  | x :: l, k, v => if x.1 = k then (k, v) :: l else x :: setA l k v
def putA (l : List (K × V)) (k : K) (v : V) : List (K × V) := if (lkA l k).isSome then setA l k v else l ++ [(k, v)]
def delA : List (K × V) → K → List (K × V)
  | [], _ => []
  | x :: l, k => if x.1 = k then l else x :: delA l k
theorem putA_cons (x : K × V) (l : List (K × V)) (k : K) (v : V) : putA (x :: l) k v = if x.1 = k then (k, v) :: l else x :: putA l k v := by
  unfold putA
  simp only [lkA, setA]
  split
  · rfl
  · split <;> rfl
theorem lkA_none {l : List (K × V)} {k : K} : lkA l k = none ↔ k ∉ l.map (·.1) := by
  induction l with
  | nil => simp [lkA]
  | cons x l ih =>
    simp only [lkA, List.map_cons, List.mem_cons]
    split
    · rename_i h; subst h; simp
    · rename_i h; rw [ih]; constructor
      · rintro h1 (h2 | h2)
        · exact h h2.symm
        · exact h1 h2
      · exact fun h1 h2 => h1 (.inr h2)
theorem lkA_put (l : List (K × V)) (k : K) (v : V) (j : K) : lkA (putA l k v) j = if j = k then some v else lkA l j := by
  induction l with
  | nil =>
    simp only [putA, lkA, Option.isSome_none, Bool.false_eq_true, if_false, List.nil_append]
    by_cases h : k = j
    · rw [if_pos h, if_pos h.symm]
    · rw [if_neg h, if_neg (fun q => h q.symm)]
  | cons x l ih =>
    rw [putA_cons]
    split
    · rename_i e
      simp only [lkA]
      by_cases h : j = k
      · rw [if_pos h.symm, if_pos h]
      · rw [if_neg (fun q => h q.symm), if_neg h, if_neg (fun q => h (q.symm.trans e))]
    · rename_i e
      simp only [lkA]
      by_cases h : x.1 = j
      · rw [if_pos h, if_pos h, if_neg (fun q => e (h.trans q))]
      · rw [if_neg h, if_neg h, ih]
theorem lkA_del {l : List (K × V)} (h : (l.map (·.1)).Nodup) (k j : K) : lkA (delA l k) j = if j = k then none else lkA l j := by
  induction l with
  | nil => simp [delA, lkA]
  | cons x l ih =>
    rw [List.map_cons, List.nodup_cons] at h
    simp only [delA]
    by_cases e : x.1 = k
    · rw [if_pos e]
      by_cases e2 : j = k
      · subst e2; rw [if_pos rfl]; exact lkA_none.2 (e ▸ h.1)
      · rw [if_neg e2]; simp only [lkA]; rw [if_neg (fun q => e2 (q.symm.trans e))]
    · rw [if_neg e]
      simp only [lkA]
      by_cases e2 : j = k
      · subst e2; rw [if_neg e, ih h.2, if_pos rfl, if_pos rfl]
      · rw [ih h.2, if_neg e2, if_neg e2]
theorem setA_keys (l : List (K × V)) (k : K) (v : V) : (setA l k v).map (·.1) = l.map (·.1) := by
  induction l with
  | nil => rfl
  | cons x l ih =>
    simp only [setA]
    split
    · rename_i e; simp [e]
    · simp [ih]
theorem putA_keys (l : List (K × V)) (k : K) (v : V) : (putA l k v).map (·.1) = if k ∈ l.map (·.1) then l.map (·.1) else l.map (·.1) ++ [k] := by
  unfold putA
  have := lkA_none (l := l) (k := k)
  split
  · rename_i h
    rw [setA_keys, if_pos]
    exact Classical.byContradiction fun q => by rw [this.2 q] at h; cases h
  · rename_i h
    have hn : lkA l k = none := by simpa using h
    rw [if_neg (this.1 hn)]; simp
theorem delA_sub (k : K) : ∀ l : List (K × V), (delA l k).Sublist l
  | [] => .slnil
  | x :: l => by
    simp only [delA]; split
    · exact List.sublist_cons_self _ _
    · exact (delA_sub k l).cons_cons _
theorem putA_nodup {l : List (K × V)} (h : (l.map (·.1)).Nodup) (k : K) (v : V) : ((putA l k v).map (·.1)).Nodup := by
  rw [putA_keys]
  split
  · exact h
  · rename_i hn
    rw [List.nodup_append]
    exact ⟨h, by simp, fun a ha b hb => by simp at hb; subst hb; intro q; subst q; exact hn ha⟩
theorem delA_nodup {l : List (K × V)} (h : (l.map (·.1)).Nodup) (k : K) : ((delA l k).map (·.1)).Nodup := ((delA_sub k l).map _).nodup h
theorem delA_mem {l : List (K × V)} (h : (l.map (·.1)).Nodup) (k j : K) : j ∈ (delA l k).map (·.1) ↔ j ∈ l.map (·.1) ∧ j ≠ k := by
  have h1 := lkA_none (l := delA l k) (k := j)
  have h2 := lkA_none (l := l) (k := j)
  have h3 := lkA_del h k j
  by_cases e : j = k
  · rw [if_pos e] at h3
    exact ⟨fun q => absurd q (h1.1 h3), fun q => absurd e q.2⟩
  · rw [if_neg e] at h3
    rw [h3] at h1
    constructor
    · exact fun q => ⟨Classical.byContradiction fun r => h1.1 (h2.2 r) q, e⟩
    · exact fun q => Classical.byContradiction fun r => h2.1 (h1.2 r) q.1
end
abbrev Pkt : Type := Int × Int × List UInt8 × Unit
abbrev PktRp : Rp Pkt := Rp.prod Rp.i64 (Rp.prod Rp.i64 (Rp.prod (Rp.slice Rp.u8) Rp.unit))
abbrev PktG (e : TypeId) : Gp Pkt := Gp.prod (Gp.pure Rp.i64) (Gp.prod (Gp.pure Rp.i64) (Gp.prod (Gp.row Rp.u8 e) Gp.unit))
theorem PktRp.open {h : Fr} {cs : List Value} {x : Pkt} (r : PktRp.rel h cs x) : ∃ v, cs = [.int .i64 x.1, .int .i64 x.2.1, v] ∧ InI64 x.1 ∧ InI64 x.2.1 ∧ Arr Rp.u8 h v x.2.2.1 := by
  obtain ⟨c1, c2, rfl, ⟨rfl, hb⟩, c3, c4, rfl, ⟨rfl, hb2⟩, c5, c6, rfl, ⟨v, rfl, ha⟩, hu⟩ := r
  refine ⟨v, ?_, hb, hb2, ha⟩
  rw [show c6 = [] from hu]; rfl
theorem PktRp.mk {h : Fr} {v : Value} {a b : Int} {xs : List UInt8} (h1 : InI64 a) (h2 : InI64 b) (ha : Arr Rp.u8 h v xs) : PktRp.rel h [.int .i64 a, .int .i64 b, v] (a, b, xs, ()) :=
  ⟨[.int .i64 a], [.int .i64 b, v], rfl, ⟨rfl, h1⟩, [.int .i64 b], [v], rfl, ⟨rfl, h2⟩, [v], [], rfl, ⟨v, rfl, ha⟩, rfl⟩
theorem PktG.open {e : TypeId} {m : Fr} {cs : List Value} {x : Pkt} (r : (PktG e).own cs x m) : ∃ v, cs = [.int .i64 x.1, .int .i64 x.2.1, v] ∧ InI64 x.1 ∧ InI64 x.2.1 ∧ OwnP Rp.u8 e v x.2.2.1 m := by
  obtain ⟨c1, c2, rfl, h1⟩ := r
  obtain ⟨_, m1, _, _, t1, ⟨rfl, hb⟩, m2, _, _, t2, _, h2, _⟩ := h1
  obtain ⟨c3, c4, rfl, h3⟩ := h2
  obtain ⟨_, m3, _, _, t3, ⟨rfl, hb2⟩, m4, _, _, t4, _, h4, _⟩ := h3
  obtain ⟨c5, c6, rfl, h5⟩ := h4
  obtain ⟨m5, m6, _, t5, _, ⟨v, rfl, hv⟩, _, _, _, _, _, h6, _⟩ := h5
  refine ⟨v, ?_, hb, hb2, ?_⟩
  · rw [show c6 = [] from h6]; rfl
  · obtain ⟨css, q1, q2⟩ := hv
    exact ⟨css, q1, q2.mono (Fr.sub_trans t5 (Fr.sub_trans t4 (Fr.sub_trans t3 (Fr.sub_trans t2 t1))))⟩
theorem PktG.mk {e : TypeId} {m : Fr} {v : Value} {a b : Int} {xs : List UInt8} (h1 : InI64 a) (h2 : InI64 b) (ha : OwnP Rp.u8 e v xs m) : (PktG e).own [.int .i64 a, .int .i64 b, v] (a, b, xs, ()) m :=
  Gp.own_pure_prod (c := [.int .i64 a]) ⟨rfl, h1⟩ (Gp.own_pure_prod (c := [.int .i64 b]) ⟨rfl, h2⟩ (Gp.own_unit (c := [v]) ⟨v, rfl, ha⟩))
/-- one link's packets -/
def linkOwn (e ep : TypeId) (x : KEnt (Int × Int)) (y : (Int × Int) × List Pkt) : SProp := fun m => x.1 = y.1 ∧ ListP (PktG e) ep x.2.1 y.2 m
theorem EachP.cons3 {β α : Type} {A : β → α → SProp} {L : SProp} {b : β} {a : α} {bs bs' : List β} {as as' : List α} (h : ∀ m, EachP A bs as m → Sat [L, EachP A bs' as'] m) {m : Fr} (x : EachP A (b :: bs) (a :: as) m) : Sat [L, EachP A (b :: bs') (a :: as')] m := by
  have h1 : Sat [A b a, EachP A bs as] m := x
  have h2 : Sat [EachP A bs as, A b a] m := Sat.perm (List.Perm.swap _ _ _) h1
  have h3 : Sat [L, EachP A bs' as', A b a] m := Sat.part2 h h2
  have h4 : Sat [A b a, EachP A bs' as', L] m := Sat.perm (((List.Perm.swap _ _ _).trans (List.Perm.cons _ (List.Perm.swap _ _ _))).trans (List.Perm.swap _ _ _)) h3
  have h5 : Sat [EachP A (b :: bs') (a :: as'), L] m := Sat.join2 (fun _ z => z) h4
  exact Sat.perm (List.Perm.swap _ _ _) h5
theorem EachP.cons3' {β α : Type} {A : β → α → SProp} {L : SProp} {b : β} {a : α} {bs bs' : List β} {as as' : List α} (h : ∀ m, Sat [L, EachP A bs as] m → EachP A bs' as' m) {m : Fr} (x : Sat [L, EachP A (b :: bs) (a :: as)] m) : EachP A (b :: bs') (a :: as') m := by
  have h1 : Sat [EachP A (b :: bs) (a :: as), L] m := Sat.perm (List.Perm.swap _ _ _) x
  have h2 : Sat [A b a, EachP A bs as, L] m := Sat.part2 (fun _ z => z) h1
  have h3 : Sat [L, EachP A bs as, A b a] m := Sat.perm (((List.Perm.swap _ _ _).trans (List.Perm.cons _ (List.Perm.swap _ _ _))).trans (List.Perm.swap _ _ _)) h2
  have h4 : Sat [EachP A bs' as', A b a] m := Sat.join2 h h3
  exact Sat.perm (List.Perm.swap _ _ _) h4
theorem link_keys {e ep : TypeId} : ∀ {es : List (KEnt (Int × Int))} {ls : List ((Int × Int) × List Pkt)} {m : Fr}, EachP (linkOwn e ep) es ls m → es.map (·.1) = ls.map (·.1)
  | [], [], _, _ => rfl
  | [], _ :: _, _, h => h.elim
  | _ :: _, [], _, h => h.elim
  | x :: es, y :: ls, m, h => by
    have h' : Sat [linkOwn e ep x y, EachP (linkOwn e ep) es ls] m := h
    obtain ⟨_, _, _, _, _, p, _, _, _, _, _, q, _⟩ := h'
    rw [List.map_cons, List.map_cons, p.1, link_keys q]
theorem link_out {e ep : TypeId} (k : Int × Int) : ∀ {es : List (KEnt (Int × Int))} {ls : List ((Int × Int) × List Pkt)} {m : Fr}, EachP (linkOwn e ep) es ls m →
    Sat [ListP (PktG e) ep ((getK es k).getD (.slice none 0 0)) ((lkA ls k).getD []), EachP (linkOwn e ep) (delK es k) (delA ls k)] m
  | [], [], m, h => by
    refine sat_listNil (G := PktG e) (e := ep) ?_
    exact ⟨Fr.emp, Fr.emp, Fr.emp_disj _, Fr.emp_sub _, Fr.emp_sub _, trivial, trivial⟩
  | [], _ :: _, _, h => h.elim
  | _ :: _, [], _, h => h.elim
  | x :: es, y :: ls, m, h => by
    have h' : Sat [linkOwn e ep x y, EachP (linkOwn e ep) es ls] m := h
    have hk : x.1 = y.1 := by obtain ⟨_, _, _, _, _, p, _⟩ := h'; exact p.1
    simp only [getK, lkA, delK, delA, ← hk]
    by_cases hx : x.1 = k
    · simp only [if_pos hx, Option.getD_some]
      exact Sat.cons_imp (fun _ z => z.2) (fun _ z => z) h'
    · simp only [if_neg hx]
      exact EachP.cons3 (fun _ z => link_out k z) h
theorem putK_cons {K : Type} [DecidableEq K] (x : KEnt K) (es : List (KEnt K)) (c : Nat) (k : K) (v : Value) : putK (x :: es) c k v = if x.1 = k then (k, v, x.2.2) :: es else x :: putK es c k v := by
  unfold putK
  simp only [getK, setK]
  split
  · rfl
  · split <;> rfl
theorem link_in {e ep : TypeId} (k : Int × Int) (c : Nat) {v : Value} {ps : List Pkt} : ∀ {es : List (KEnt (Int × Int))} {ls : List ((Int × Int) × List Pkt)} {m : Fr}, es.map (·.1) = ls.map (·.1) →
    Sat [ListP (PktG e) ep v ps, EachP (linkOwn e ep) (delK es k) (delA ls k)] m → EachP (linkOwn e ep) (putK es c k v) (putA ls k ps) m
  | [], [], m, _, h => by
    show Sat [linkOwn e ep (k, v, c) (k, ps), EachP (linkOwn e ep) [] []] m
    exact Sat.cons_imp (fun _ z => ⟨rfl, z⟩) (fun _ z => z) h
  | [], _ :: _, _, hk, _ => by cases hk
  | _ :: _, [], _, hk, _ => by cases hk
  | x :: es, y :: ls, m, hk, h => by
    rw [List.map_cons, List.map_cons] at hk
    injection hk with hk1 hk2
    rw [putK_cons, putA_cons]
    simp only [delK, delA, ← hk1] at h ⊢
    by_cases hx : x.1 = k
    · simp only [if_pos hx] at h ⊢
      show Sat [linkOwn e ep (k, v, x.2.2) (k, ps), EachP (linkOwn e ep) es ls] m
      exact Sat.cons_imp (fun _ z => ⟨rfl, z⟩) (fun _ z => z) h
    · simp only [if_neg hx] at h ⊢
      exact EachP.cons3' (fun _ z => link_in k c hk2 z) h
/-- all links -/
def LinksP (e ep : TypeId) (b : Nat) (ls : List ((Int × Int) × List Pkt)) : SProp := fun m => ∃ es c, WfK es c ∧ Sat [MapK enc2 b es c, EachP (linkOwn e ep) es ls] m
section
variable {ro : Option Nat} {P : Program} {fn : Func} {n : Nat} {R : Ending → World → Prop} {k : List Item} {σ : List (Nat × Value)} {D : List Deferred} {g : Gr} {η ζ θ : List SProp} {todo : List Item}
  {e ep : TypeId} {b : Nat} {ls : List ((Int × Int) × List Pkt)} {es : List (KEnt (Int × Int))} {c : Nat}
theorem S.linksOpen (s : Sel η (LinksP e ep b ls) ζ) (h : ∀ es c, WfK es c → es.map (·.1) = ls.map (·.1) → S ro P fn n R todo σ D g (MapK enc2 b es c :: EachP (linkOwn e ep) es ls :: ζ)) : S ro P fn n R todo σ D g η := by
  refine S.sel s (S.exi (A := fun es m => ∃ c, WfK es c ∧ Sat [MapK enc2 b es c, EachP (linkOwn e ep) es ls] m) fun es => ?_)
  refine S.exi (A := fun c m => WfK es c ∧ Sat [MapK enc2 b es c, EachP (linkOwn e ep) es ls] m) fun c => ?_
  refine S.factS .here (p := WfK es c) (fun _ x => x.1) fun hw => ?_
  refine S.entail (fun _ x => x.2) ?_
  exact S.factS (.there .here) (p := es.map (·.1) = ls.map (·.1)) (fun _ x => link_keys x) fun hk => h es c hw hk
theorem sat_links {m : Fr} (hw : WfK es c) (s1 : Sel η (MapK enc2 b es c) ζ) (s2 : Sel ζ (EachP (linkOwn e ep) es ls) θ) (h : Sat η m) : Sat (LinksP e ep b ls :: θ) m :=
  Sat.join2 (fun _ x => ⟨es, c, hw, x⟩) (Sat.cons_imp (fun _ y => y) (fun _ y => Sat.perm s2.perm y) (Sat.perm s1.perm h))
theorem S.linksShut (hw : WfK es c) (s1 : Sel η (MapK enc2 b es c) ζ) (s2 : Sel ζ (EachP (linkOwn e ep) es ls) θ) (h : S ro P fn n R todo σ D g (LinksP e ep b ls :: θ)) : S ro P fn n R todo σ D g η :=
  S.imp' (fun _ => sat_links hw s1 s2) h
theorem S.linkOut (k : Int × Int) (s : Sel η (EachP (linkOwn e ep) es ls) ζ) (h : S ro P fn n R todo σ D g (ListP (PktG e) ep ((getK es k).getD (.slice none 0 0)) ((lkA ls k).getD []) :: EachP (linkOwn e ep) (delK es k) (delA ls k) :: ζ)) : S ro P fn n R todo σ D g η :=
  S.sel s (S.imp' (η := EachP (linkOwn e ep) es ls :: ζ) (fun _ => Sat.part2 fun _ x => link_out k x) h)
theorem S.linkIn {v : Value} {ps : List Pkt} (k : Int × Int) (hk : es.map (·.1) = ls.map (·.1)) (c : Nat) (s1 : Sel η (ListP (PktG e) ep v ps) ζ) (s2 : Sel ζ (EachP (linkOwn e ep) (delK es k) (delA ls k)) θ)
    (h : S ro P fn n R todo σ D g (EachP (linkOwn e ep) (putK es c k v) (putA ls k ps) :: θ)) : S ro P fn n R todo σ D g η :=
  S.imp' (fun _ x => Sat.join2 (fun _ y => link_in k c hk y) (Sat.cons_imp (fun _ y => y) (fun _ y => Sat.perm s2.perm y) (Sat.perm s1.perm x))) h
theorem link_shape {m : Fr} (k : Int × Int) (h : EachP (linkOwn e ep) es ls m) : ∃ a c, (getK es k).getD (.slice none 0 0) = .slice a ((lkA ls k).getD []).length c := by
  obtain ⟨_, _, _, _, _, p, _⟩ := link_out k h
  exact p.shape
theorem S.linkShape (k : Int × Int) (s : Sel η (EachP (linkOwn e ep) es ls) ζ) (h : ∀ a c, (getK es k).getD (.slice none 0 0) = .slice a ((lkA ls k).getD []).length c → S ro P fn n R todo σ D g η) : S ro P fn n R todo σ D g η :=
  S.factS s (p := ∃ a c, (getK es k).getD (.slice none 0 0) = .slice a ((lkA ls k).getD []).length c) (fun _ x => link_shape k x) fun ⟨a, c, q⟩ => h a c q
end
theorem Con.links {P : Program} {f : FuncId} {args : Array Value} {r : Fr} {η : List SProp} {Post : Ending → List SProp → Prop} {e ep : TypeId} {b : Nat} {ls : List ((Int × Int) × List Pkt)}
    (h : ∀ es c, WfK es c → es.map (·.1) = ls.map (·.1) → Con P f args r (MapK enc2 b es c :: EachP (linkOwn e ep) es ls :: η) Post) : Con P f args r (LinksP e ep b ls :: η) Post := by
  intro g hg w hw
  obtain ⟨es, h1⟩ := Holds.exi (A := fun es m => ∃ c, WfK es c ∧ Sat [MapK enc2 b es c, EachP (linkOwn e ep) es ls] m) hw
  obtain ⟨c, h2⟩ := Holds.exi (A := fun c m => WfK es c ∧ Sat [MapK enc2 b es c, EachP (linkOwn e ep) es ls] m) h1
  have hwf : WfK es c := by
    obtain ⟨_, _, _, _, _, _, _, _, _, _, _, _, hA, _⟩ := h2
    exact hA.1
  have h3 : Holds w g (MapK enc2 b es c :: EachP (linkOwn e ep) es ls :: η) := h2.imp fun _ x => Sat.part2 (fun _ y => y.2) x
  have hk : es.map (·.1) = ls.map (·.1) := by
    obtain ⟨_, _, _, _, _, _, _, _, _, _, _, _, hA, _⟩ := h3.sel (.there .here)
    exact link_keys hA
  exact h es c hwf hk g hg w h3
theorem Does.lend {P : Program} {op : Op} {σ : List (Nat × Value)} {g : Gr} {η ζ : List SProp} {v : Value} {A : SProp} (s : Sel η A ζ) (h : ∀ m : Fr, A m → g.h.disj m → Does P op σ (g.add m) ζ v ζ) : Does P op σ g η v η := fun o ρ w ho hk hw => by
  obtain ⟨m, x, hd, hw'⟩ := (hw.sel s).freeze
  obtain ⟨w', h1, h2⟩ := h m x hd o ρ w ho hk hw'
  exact ⟨w', h1, (h2.thaw x hd).perm s.perm.symm⟩
theorem Does.idxV {P : Program} {σ : List (Nat × Value)} {g : Gr} {η : List SProp} {t e : TypeId} {x y : Operand} {a : Addr} {m c k j : Nat} {kd : IntKind} {zi : Int} (ht : P.underlying t = some (.slice e)) (he : (P.info? e).map (·.size) = some k) (hx : ev σ x = some (.slice (some a) m c)) (hy : ev σ y = some (.int kd zi)) (hz : zi = (j : Int)) (hj : j < m) :
    Does P (.indexAddr t x y) σ g η (.pointer (some (a.add (j * k)))) η := .run fun o ρ w ho hk => by
  subst hz
  simp [execOp, ho, hk x _ hx, hk y _ hy, Instr.indexAt, asIntOf, run_underlying ht, hj, run_sizeOf he]
theorem OwnP.cellAt {k : Nat} {e : TypeId} {a0 : Addr} {m c : Nat} {css : List (List Value)} {h : Fr} {i : Nat} (x : OwnP (Rp.cells k) e (.slice (some a0) m c) css h) (hi : i < css.length) : At h (a0.add (i * k)) css[i] := by
  obtain ⟨ds, h1, a, c', hv, _, _, h3, h4⟩ := x.arr
  obtain rfl := all2_cells h1
  injection hv with e1 _ _
  subst e1
  have hfg := h1.flat_get i hi
  have hk : (Rp.cells k).k = k := rfl
  rw [hk] at hfg h3
  intro q hq
  rw [Addr.add_add]
  have hl := h1.get i hi hi
  have hq' : i * k + q < ds.flatten.length := by
    have : q < ((ds.flatten.drop (i * k)).take k).length := by rw [hfg]; exact hq
    simp only [List.length_take, List.length_drop] at this; omega
  obtain ⟨q0, hq0, hc⟩ := h4 _ hq'
  cases hq0
  rw [hc]
  have : ds[i][q] = ((ds.flatten.drop (i * k)).take k)[q]'(by rw [hfg]; exact hq) := by simp only [hfg]
  rw [this]; simp
theorem S.pktOpen {ro : Option Nat} {P : Program} {fn : Func} {n : Nat} {R : Ending → World → Prop} {σ : List (Nat × Value)} {D : List Deferred} {g : Gr} {η ζ : List SProp} {todo : List Item} {e : TypeId} {cs : List Value} {p : Pkt} (s : Sel η ((PktG e).own cs p) ζ)
    (h : ∀ v, cs = [.int .i64 p.1, .int .i64 p.2.1, v] → InI64 p.1 → InI64 p.2.1 → S ro P fn n R todo σ D g (OwnP Rp.u8 e v p.2.2.1 :: ζ)) : S ro P fn n R todo σ D g η := by
  refine S.sel s (S.imp' (η := (PktG e).own cs p :: ζ) (ζ := (fun m => ∃ v, cs = [.int .i64 p.1, .int .i64 p.2.1, v] ∧ InI64 p.1 ∧ InI64 p.2.1 ∧ OwnP Rp.u8 e v p.2.2.1 m) :: ζ) (fun _ => Sat.cons_imp (fun _ x => PktG.open x) fun _ x => x) ?_)
  refine S.exi fun v => ?_
  refine S.factS .here (p := cs = [.int .i64 p.1, .int .i64 p.2.1, v] ∧ InI64 p.1 ∧ InI64 p.2.1) (fun _ x => ⟨x.1, x.2.1, x.2.2.1⟩) fun ⟨h1, h2, h3⟩ => ?_
  exact S.conv (C := OwnP Rp.u8 e v p.2.2.1) .here (fun m x => ⟨m, Fr.sub_refl _, x.2.2.2⟩) (h v h1 h2 h3)
theorem S.ofList {ro : Option Nat} {P : Program} {fn : Func} {n : Nat} {R : Ending → World → Prop} {σ : List (Nat × Value)} {D : List Deferred} {g : Gr} {η ζ : List SProp} {todo : List Item} {α : Type} {G : Gp α} {e : TypeId} {v : Value} {xs : List α} (s : Sel η (ListP G e v xs) ζ)
    (h : ∀ a c, v = .slice a xs.length c → S ro P fn n R todo σ D g η) : S ro P fn n R todo σ D g η :=
  S.factS s (p := ∃ a c, v = .slice a xs.length c) (fun _ x => x.shape) fun ⟨a, c, q⟩ => h a c q
end Go.Sp
