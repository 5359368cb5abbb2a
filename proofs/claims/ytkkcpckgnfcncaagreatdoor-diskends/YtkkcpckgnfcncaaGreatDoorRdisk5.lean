import Derived.Test.YtkkcpckgnfcncaaGreatDoorRdisk4
open Go Go.Sp
set_option maxRecDepth 100000
attribute [local irreducible] obj Own OwnP
namespace Go.Proofs.YtkkcpckgnfcncaaGreatDoor

/-- a file's bytes, and which of them are safe -/
def fileR (o : Int) (l : List CellM) : List (UInt8 × Bool) := (l.filter fun x => x.1 == o).map (·.2)
theorem fileR_cons (o : Int) (x : CellM) (l : List CellM) : fileR o (x :: l) = if x.1 = o then x.2 :: fileR o l else fileR o l := by
  unfold fileR; by_cases h : x.1 = o <;> simp [List.filter_cons, h]
theorem fileR_app (o : Int) (a b : List CellM) : fileR o (a ++ b) = fileR o a ++ fileR o b := by unfold fileR; rw [List.filter_append, List.map_append]
theorem keep_file (o : Int) : ∀ (l : List CellM) (k : Int), fileR o (keepL o l k) = ((fileR o l).take k.toNat).map fun x => (x.1, true)
  | [], k => by simp [keepL, fileR]
  | x :: l, k => by
    rw [fileR_cons]
    by_cases hx : x.1 = o
    · rw [if_pos hx]
      simp only [keepL, if_pos hx]
      by_cases hk : 0 < k
      · rw [if_pos hk, fileR_cons, if_pos hx, keep_file o l (k - 1)]
        obtain ⟨n, hn⟩ : ∃ n, k.toNat = n + 1 := ⟨(k - 1).toNat, by omega⟩
        rw [hn, List.take_succ_cons, show (k - 1).toNat = n from by omega]; rfl
      · rw [if_neg hk, keep_file o l (k - 1), show (k - 1).toNat = 0 from by omega, show k.toNat = 0 from by omega]; simp
    · rw [if_neg hx]
      simp only [keepL, if_neg hx]
      rw [fileR_cons, if_neg hx, keep_file o l k]
theorem keep_other {o p : Int} (h : p ≠ o) : ∀ (l : List CellM) (k : Int), fileR p (keepL o l k) = fileR p l
  | [], _ => rfl
  | x :: l, k => by
    rw [fileR_cons]
    by_cases hx : x.1 = o
    · have hp : ¬ x.1 = p := fun q => h (q.symm.trans hx)
      rw [if_neg hp]
      simp only [keepL, if_pos hx]
      split
      · rw [fileR_cons, if_neg hp, keep_other h l (k - 1)]
      · exact keep_other h l (k - 1)
    · simp only [keepL, if_neg hx]
      rw [fileR_cons, keep_other h l k]
theorem keep_own (o : Int) : ∀ (l : List CellM) (k : Int), ∀ y ∈ keepL o l k, ∃ x ∈ l, x.1 = y.1
  | [], _, y, hy => by cases hy
  | x :: l, k, y, hy => by
    have rc : ∀ k', y ∈ keepL o l k' → ∃ z ∈ x :: l, z.1 = y.1 := fun k' h => let ⟨z, h1, h2⟩ := keep_own o l k' y h; ⟨z, List.mem_cons_of_mem _ h1, h2⟩
    simp only [keepL] at hy
    split at hy
    · split at hy
      · rcases List.mem_cons.1 hy with rfl | h
        · exact ⟨x, List.mem_cons_self .., rfl⟩
        · exact rc _ h
      · exact rc _ hy
    · rcases List.mem_cons.1 hy with rfl | h
      · exact ⟨y, List.mem_cons_self .., rfl⟩
      · exact rc _ h
theorem gone_file (o : Int) (l : List CellM) : fileR o (goneL o l) = [] := by
  unfold fileR goneL; rw [List.filter_filter]
  rw [List.filter_eq_nil_iff.2 (by intro x _; by_cases h : x.1 = o <;> simp [h])]; rfl
theorem gone_other {o p : Int} (h : p ≠ o) (l : List CellM) : fileR p (goneL o l) = fileR p l := by
  unfold fileR goneL; rw [List.filter_filter]
  congr 1
  refine List.filter_congr fun x _ => ?_
  by_cases hx : x.1 = p
  · have : ¬ x.1 = o := fun q => h (hx.symm.trans q)
    simp [hx, h]
  · simp [hx]
theorem cAll_file (o : Int) (l : List CellM) : cAll o l = (fileR o l).length := by unfold cAll fileR; rw [List.length_map]
theorem cSafe_file (o : Int) (l : List CellM) : cSafe o l = ((fileR o l).filter (·.2)).length := by
  induction l with
  | nil => rfl
  | cons x l ih =>
    rw [fileR_cons]
    unfold cSafe at ih ⊢
    rw [List.filter_cons]
    by_cases h : x.1 = o <;> by_cases h2 : x.2.2 = true <;> simp [h, h2, List.filter_cons] at ih ⊢ <;> omega
theorem rdR_file (o : Int) (l : List CellM) : rdR o l = (fileR o l).map (·.1) := by unfold rdR fileR; rw [List.map_map]; rfl
theorem ownR_spec (n : List UInt8) : ∀ (l : List (List UInt8)) (i : Nat), (ownR n l i = -1 ∧ (n = [] ∨ n ∉ l)) ∨ ∃ j, ownR n l i = ((i + j : Nat) : Int) ∧ l[j]? = some n ∧ n ≠ []
  | [], i => .inl ⟨rfl, .inr (by simp)⟩
  | x :: l, i => by
    simp only [ownR]
    by_cases h : x = n ∧ n ≠ []
    · rw [if_pos h]; exact .inr ⟨0, rfl, by rw [h.1]; rfl, h.2⟩
    · rw [if_neg h]
      rcases ownR_spec n l (i + 1) with ⟨h1, h2⟩ | ⟨j, h1, h2, h3⟩
      · refine .inl ⟨h1, ?_⟩
        rcases h2 with h2 | h2
        · exact .inl h2
        · by_cases h0 : n = []
          · exact .inl h0
          · refine .inr fun hm => ?_
            rcases List.mem_cons.1 hm with rfl | q
            · exact h ⟨rfl, h0⟩
            · exact h2 q
      · exact .inr ⟨j + 1, by rw [h1]; omega, by simpa using h2, h3⟩
/-- the document's disk has what a view tells -/
structure Rel (m : RefM) (v : View) : Prop where
  nd : (neN m.names).Nodup
  own : ∀ x ∈ m.cells, ∃ o : Nat, x.1 = (o : Int) ∧ ∃ k, m.names[o]? = some k ∧ k ≠ []
  file : ∀ (o : Nat) (k : List UInt8), m.names[o]? = some k → k ≠ [] → ∃ s l, v k = some (s, l) ∧ fileR (o : Int) m.cells = (s.map fun c => (c, true)) ++ l.map fun c => (c, false)
  absn : ∀ k, k ∉ neN m.names → v k = none
/-- nonempty names at two places -/
theorem nd_inj {l : List (List UInt8)} (h : (neN l).Nodup) {i j : Nat} {k : List UInt8} (hi : l[i]? = some k) (hj : l[j]? = some k) (hk : k ≠ []) : i = j := by
  have hp : l.Pairwise fun x y => x ≠ [] → y ≠ [] → x ≠ y := by
    have : (l.filter fun x => x != []).Pairwise (fun x y => x ≠ y) := h
    exact (List.pairwise_filter.1 this).imp fun q a b => q (by simpa using a) (by simpa using b)
  obtain ⟨hil, e1⟩ := List.getElem?_eq_some_iff.1 hi
  obtain ⟨hjl, e2⟩ := List.getElem?_eq_some_iff.1 hj
  rcases Nat.lt_trichotomy i j with q | q | q
  · exact absurd (e1.trans e2.symm) (List.pairwise_iff_getElem.1 hp i j hil hjl q (by rw [e1]; exact hk) (by rw [e2]; exact hk))
  · exact q
  · exact absurd (e2.trans e1.symm) (List.pairwise_iff_getElem.1 hp j i hjl hil q (by rw [e2]; exact hk) (by rw [e1]; exact hk))
theorem Rel.own_none {m : RefM} {v : View} (r : Rel m v) {n : List UInt8} (h : ownR n m.names 0 < 0) : v n = none := by
  rcases ownR_spec n m.names 0 with ⟨_, h2⟩ | ⟨j, h1, _⟩
  · exact r.absn n fun hm => by
      have := neN_mem.1 hm
      rcases h2 with q | q
      · exact this.2 q
      · exact q this.1
  · omega
theorem Rel.own_some {m : RefM} {v : View} (r : Rel m v) {n : List UInt8} (h : ¬ ownR n m.names 0 < 0) : ∃ o : Nat, ownR n m.names 0 = (o : Int) ∧ m.names[o]? = some n ∧ n ≠ [] ∧ ∃ s l, v n = some (s, l) ∧ fileR (o : Int) m.cells = (s.map fun c => (c, true)) ++ l.map fun c => (c, false) := by
  rcases ownR_spec n m.names 0 with ⟨h1, _⟩ | ⟨j, h1, h2, h3⟩
  · omega
  · exact ⟨j, by rw [h1]; simp, h2, h3, r.file j n h2 h3⟩
theorem file_bytes (s l : List UInt8) (k : Nat) : (((s.map fun c => (c, true)) ++ l.map fun c => (c, false)).take k).map (fun x : UInt8 × Bool => (x.1, true)) = ((s ++ l).take k).map fun c => (c, true) := by
  rw [List.map_take, List.map_append, List.map_map, List.map_map, List.map_take, List.map_append]; rfl
/-- a file cut, what is left safe -/
theorem Rel.keep {m : RefM} {v : View} (r : Rel m v) {o : Nat} {n s l : List UInt8} (h : m.names[o]? = some n) (hn : n ≠ []) (hv : v n = some (s, l)) (k : Int) : Rel ⟨m.names, keepL (o : Int) m.cells k, m.room⟩ (vUpd v n (some ((s ++ l).take k.toNat, []))) := by
  refine ⟨r.nd, fun x hx => ?_, fun p q hp hq => ?_, fun q hq => ?_⟩
  · obtain ⟨y, hy, e⟩ := keep_own _ _ _ x hx
    rw [← e]; exact r.own y hy
  · obtain ⟨s', l', hv', hf⟩ := r.file p q hp hq
    by_cases e : q = n
    · subst e
      have := nd_inj r.nd hp h hn
      subst this
      rw [hv'] at hv; cases hv
      refine ⟨_, _, by unfold vUpd; rw [if_pos rfl], ?_⟩
      simp only
      rw [keep_file, hf, file_bytes]; simp
    · refine ⟨s', l', by unfold vUpd; rw [if_neg e]; exact hv', ?_⟩
      simp only
      have hpo : ((p : Nat) : Int) ≠ (o : Int) := fun q2 => by
        have : p = o := by omega
        subst this; rw [hp] at h; cases h; exact e rfl
      rw [keep_other hpo]; exact hf
  · unfold vUpd
    rw [if_neg fun e => hq (by subst e; exact neN_mem.2 ⟨List.mem_of_getElem? h, hn⟩)]
    exact r.absn q hq
theorem neN_set {l : List (List UInt8)} {o : Nat} {n : List UInt8} (h : l[o]? = some n) (hnd : (neN l).Nodup) (hn : n ≠ []) : (neN (l.set o [])).Nodup ∧ ∀ k, k ∈ neN (l.set o []) ↔ k ∈ neN l ∧ k ≠ n := by
  obtain ⟨ho, e⟩ := List.getElem?_eq_some_iff.1 h
  have hsub : (neN (l.set o [])).Sublist (neN l) := by
    rw [List.set_eq_take_append_cons_drop, if_pos ho]
    unfold neN
    conv => rhs; rw [← List.take_append_drop o l, List.drop_eq_getElem_cons ho]
    rw [List.filter_append, List.filter_append, List.filter_cons, List.filter_cons]
    refine List.Sublist.append (List.Sublist.refl _) ?_
    simp only [bne_self_eq_false, Bool.false_eq_true, if_false]
    split
    · exact List.sublist_cons_self ..
    · exact List.Sublist.refl _
  refine ⟨hsub.nodup hnd, fun k => ⟨fun hk => ⟨hsub.subset hk, fun ek => ?_⟩, fun ⟨hk, hkn⟩ => ?_⟩⟩
  · subst ek
    obtain ⟨j, hj, ej⟩ := List.getElem_of_mem (neN_mem.1 hk).1
    rw [List.getElem_set] at ej
    split at ej
    · exact hn ej.symm
    · rename_i hne
      have hj' : j < l.length := by simpa using hj
      exact hne (nd_inj hnd h (by rw [List.getElem?_eq_getElem hj', ej]) hn)
  · obtain ⟨h1, h2⟩ := neN_mem.1 hk
    refine neN_mem.2 ⟨?_, h2⟩
    obtain ⟨j, hj, ej⟩ := List.getElem_of_mem h1
    have hjo : o ≠ j := fun q => by subst q; rw [e] at ej; exact hkn ej.symm
    have hse : (l.set o [])[j]'(by simpa using hj) = l[j] := List.getElem_set_ne hjo _
    rw [← ej, ← hse]
    exact List.getElem_mem _
theorem Rel.gone {m : RefM} {v : View} (r : Rel m v) {o : Nat} {n : List UInt8} (h : m.names[o]? = some n) (hn : n ≠ []) : Rel ⟨m.names.set o [], goneL (o : Int) m.cells, m.room⟩ (vUpd v n none) := by
  obtain ⟨n1, n2⟩ := neN_set h r.nd hn
  refine ⟨n1, fun x hx => ?_, fun p q hp hq => ?_, fun q hq => ?_⟩
  · have hx2 := List.mem_filter.1 hx
    obtain ⟨p, e, k, hk, hk0⟩ := r.own x hx2.1
    refine ⟨p, e, k, ?_, hk0⟩
    simp only
    have hop : o ≠ p := fun q => by subst q; have := hx2.2; rw [e] at this; simp at this
    rw [List.getElem?_set_ne hop]; exact hk
  · simp only at hp ⊢
    have hop : o ≠ p := fun e => by
      subst e
      rw [List.getElem?_set_self (List.getElem?_eq_some_iff.1 h).1] at hp
      cases hp; exact hq rfl
    rw [List.getElem?_set_ne hop] at hp
    obtain ⟨s, l, hv, hf⟩ := r.file p q hp hq
    have hqn : q ≠ n := fun e => by subst e; exact hop (nd_inj r.nd h hp hn)
    refine ⟨s, l, by unfold vUpd; rw [if_neg hqn]; exact hv, ?_⟩
    rw [gone_other (fun e => hop (by omega))]; exact hf
  · unfold vUpd
    by_cases e : q = n
    · rw [if_pos e]
    · rw [if_neg e]; exact r.absn q fun hm => hq ((n2 q).2 ⟨hm, e⟩)
/-- a file named anew, by a name that none bears -/
theorem Rel.anew {m : RefM} {v : View} (r : Rel m v) {o : Nat} {a b : List UInt8} {f : List UInt8 × List UInt8} (h : m.names[o]? = some a) (ha : a ≠ []) (hb : b ≠ []) (hnb : b ∉ neN m.names) (hv : v a = some f) : Rel ⟨m.names.set o b, m.cells, m.room⟩ (vUpd (vUpd v a none) b (some f)) := by
  obtain ⟨ho, e⟩ := List.getElem?_eq_some_iff.1 h
  have hbl : ∀ j, m.names[j]? ≠ some b := fun j hj => hnb (neN_mem.2 ⟨List.mem_of_getElem? hj, hb⟩)
  have mem : ∀ k, k ∈ neN (m.names.set o b) ↔ (k ∈ neN m.names ∧ k ≠ a) ∨ k = b := fun k => by
    constructor
    · intro hk
      obtain ⟨h1, h2⟩ := neN_mem.1 hk
      obtain ⟨j, hj, ej⟩ := List.getElem_of_mem h1
      rw [List.getElem_set] at ej
      split at ej
      · exact .inr ej.symm
      · rename_i hne
        have hj' : j < m.names.length := by simpa using hj
        refine .inl ⟨neN_mem.2 ⟨by rw [← ej]; exact List.getElem_mem _, h2⟩, fun q => hne ?_⟩
        exact nd_inj r.nd h (by rw [List.getElem?_eq_getElem hj', ej, q]) ha
    · rintro (⟨hk, hka⟩ | rfl)
      · obtain ⟨h1, h2⟩ := neN_mem.1 hk
        refine neN_mem.2 ⟨?_, h2⟩
        obtain ⟨j, hj, ej⟩ := List.getElem_of_mem h1
        have hjo : o ≠ j := fun q => by subst q; rw [e] at ej; exact hka ej.symm
        have hse : (m.names.set o b)[j]'(by simpa using hj) = m.names[j] := List.getElem_set_ne hjo _
        rw [← ej, ← hse]
        exact List.getElem_mem _
      · exact neN_mem.2 ⟨List.mem_iff_getElem.2 ⟨o, by simpa using ho, by simp⟩, hb⟩
  have nd : (neN (m.names.set o b)).Nodup := by
    have hp : (m.names.set o b).Pairwise fun x y => x ≠ [] → y ≠ [] → x ≠ y := List.pairwise_iff_getElem.2 fun i j hi hj hij h1 h2 he => by
      have hi' : i < m.names.length := by simpa using hi
      have hj' : j < m.names.length := by simpa using hj
      rw [List.getElem_set, List.getElem_set] at he
      rw [List.getElem_set] at h1
      split at he
      · split at he
        · omega
        · exact hbl j (by rw [List.getElem?_eq_getElem hj', he])
      · split at he
        · exact hbl i (by rw [List.getElem?_eq_getElem hi', he])
        · rename_i q1 q2
          rw [if_neg q1] at h1
          have := nd_inj r.nd (i := i) (j := j) (k := m.names[i]) (List.getElem?_eq_getElem hi') (by rw [List.getElem?_eq_getElem hj', he]) h1
          omega
    show ((m.names.set o b).filter fun x => x != []).Pairwise (fun x y => x ≠ y)
    refine List.pairwise_filter.2 (hp.imp fun {x y} q a b => q ?_ ?_)
    · simpa using a
    · simpa using b
  refine ⟨nd, fun x hx => ?_, fun p q hp hq => ?_, fun q hq => ?_⟩
  · obtain ⟨p, e2, k, hk, hk0⟩ := r.own x hx
    by_cases hop : o = p
    · subst hop; exact ⟨o, e2, b, by simp only; rw [List.getElem?_set_self ho], hb⟩
    · exact ⟨p, e2, k, by simp only; rw [List.getElem?_set_ne hop]; exact hk, hk0⟩
  · simp only at hp ⊢
    by_cases hop : o = p
    · subst hop
      rw [List.getElem?_set_self ho] at hp; cases hp
      obtain ⟨s, l, hv', hf⟩ := r.file o a h ha
      rw [hv] at hv'; cases hv'
      exact ⟨s, l, by unfold vUpd; rw [if_pos rfl], hf⟩
    · rw [List.getElem?_set_ne hop] at hp
      obtain ⟨s, l, hv', hf⟩ := r.file p q hp hq
      have hqb : q ≠ b := fun e => by subst e; exact hbl p hp
      have hqa : q ≠ a := fun e => by subst e; exact hop (nd_inj r.nd h hp ha)
      exact ⟨s, l, by unfold vUpd; rw [if_neg hqb, if_neg hqa]; exact hv', hf⟩
  · have hq2 : ¬ ((q ∈ neN m.names ∧ q ≠ a) ∨ q = b) := fun x => hq ((mem q).2 x)
    unfold vUpd
    rw [if_neg fun e => hq2 (.inr e)]
    by_cases hqa : q = a
    · rw [if_pos hqa]
    · rw [if_neg hqa]; exact r.absn q fun hm => hq2 (.inl ⟨hm, hqa⟩)
theorem fileR_new (o : Int) (b : List UInt8) : fileR o (b.map fun c => (o, c, false)) = b.map fun c => (c, false) := by
  induction b with
  | nil => rfl
  | cons c b ih => rw [List.map_cons, fileR_cons, if_pos rfl, ih]; rfl
theorem fileR_new_other {o p : Int} (h : p ≠ o) (b : List UInt8) : fileR p (b.map fun c => (o, c, false)) = [] := by
  induction b with
  | nil => rfl
  | cons c b ih => rw [List.map_cons, fileR_cons, if_neg fun q => h q.symm, ih]
theorem Rel.more {m : RefM} {v : View} (r : Rel m v) {o : Nat} {n s l b : List UInt8} (h : m.names[o]? = some n) (hn : n ≠ []) (hv : v n = some (s, l)) : Rel ⟨m.names, m.cells ++ b.map (fun c => ((o : Int), c, false)), m.room⟩ (vUpd v n (some (s, l ++ b))) := by
  refine ⟨r.nd, fun x hx => ?_, fun p q hp hq => ?_, fun q hq => ?_⟩
  · rcases List.mem_append.1 hx with hx | hx
    · exact r.own x hx
    · obtain ⟨c, _, rfl⟩ := List.mem_map.1 hx
      exact ⟨o, rfl, n, h, hn⟩
  · obtain ⟨s', l', hv', hf⟩ := r.file p q hp hq
    simp only
    rw [fileR_app]
    by_cases e : q = n
    · subst e
      have := nd_inj r.nd hp h hn
      subst this
      rw [hv] at hv'; cases hv'
      refine ⟨s, l ++ b, by unfold vUpd; rw [if_pos rfl], ?_⟩
      rw [hf, fileR_new, List.map_append, List.append_assoc]
    · refine ⟨s', l', by unfold vUpd; rw [if_neg e]; exact hv', ?_⟩
      rw [hf, fileR_new_other (fun q2 => e (by have : p = o := by omega
                                               subst this; rw [hp] at h; cases h; rfl)), List.append_nil]
  · unfold vUpd
    rw [if_neg fun e => hq (by subst e; exact neN_mem.2 ⟨List.mem_of_getElem? h, hn⟩)]
    exact r.absn q hq
/-- one more name, with nothing yet -/
theorem Rel.born {m : RefM} {v : View} (r : Rel m v) {n : List UInt8} (hn : n ≠ []) (hnn : n ∉ neN m.names) : Rel ⟨m.names ++ [n], m.cells, m.room⟩ (vUpd v n (some ([], []))) := by
  have hne : neN (m.names ++ [n]) = neN m.names ++ [n] := by unfold neN; rw [List.filter_append]; simp [hn]
  have hnil : fileR (m.names.length : Int) m.cells = [] := by
    unfold fileR
    rw [List.filter_eq_nil_iff.2 fun x hx => ?_]; rfl
    obtain ⟨o, e, k, hk, _⟩ := r.own x hx
    have := (List.getElem?_eq_some_iff.1 hk).1
    rw [e]; simp; omega
  refine ⟨by simp only; rw [hne]; exact List.nodup_append.2 ⟨r.nd, by simp, fun x hx y hy e => hnn (by rw [List.mem_singleton.1 hy] at e; rw [← e]; exact hx)⟩, fun x hx => ?_, fun p q hp hq => ?_, fun q hq => ?_⟩
  · obtain ⟨o, e, k, hk, hk0⟩ := r.own x hx
    have := (List.getElem?_eq_some_iff.1 hk).1
    exact ⟨o, e, k, by simp only; rw [List.getElem?_append_left this]; exact hk, hk0⟩
  · simp only at hp ⊢
    by_cases hpl : p < m.names.length
    · rw [List.getElem?_append_left hpl] at hp
      obtain ⟨s, l, hv, hf⟩ := r.file p q hp hq
      have hqn : q ≠ n := fun e => hnn (by rw [← e]; exact neN_mem.2 ⟨List.mem_of_getElem? hp, hq⟩)
      exact ⟨s, l, by unfold vUpd; rw [if_neg hqn]; exact hv, hf⟩
    · have hple := (List.getElem?_eq_some_iff.1 hp).1
      have hpe : p = m.names.length := by rw [List.length_append] at hple; simp at hple; omega
      subst hpe
      rw [List.getElem?_concat_length] at hp; cases hp
      exact ⟨[], [], by unfold vUpd; rw [if_pos rfl], hnil⟩
  · have : q ∉ neN m.names ∧ q ≠ n := by simp only at hq; rw [hne] at hq; simp at hq; exact ⟨hq.1, hq.2⟩
    unfold vUpd; rw [if_neg this.2]; exact r.absn q this.1
theorem Rel.ext {m : RefM} {v v' : View} (r : Rel m v) (h : ∀ k, v k = v' k) : Rel m v' := (funext h : v = v') ▸ r

end Go.Proofs.YtkkcpckgnfcncaaGreatDoor
