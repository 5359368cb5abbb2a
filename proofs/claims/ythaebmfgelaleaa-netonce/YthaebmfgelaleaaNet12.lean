import Derived.Test.YthaebmfgelaleaaNet11
open Go Go.Sp
set_option maxRecDepth 100000
attribute [local irreducible] obj Own OwnP
namespace Go.Proofs.Ythaebmfgelaleaa

/-- all packets -/
def allP (ls : NetM) : List Pkt := ls.flatMap (·.2)
theorem atL_cons (x : (Int × Int) × List Pkt) (ls : NetM) (k : Int × Int) : atL (x :: ls) k = if x.1 = k then x.2 else atL ls k := by
  unfold atL
  simp only [lkA]
  split <;> rfl
theorem atL_put (ls : NetM) (k : Int × Int) (v : List Pkt) (j : Int × Int) : atL (putA ls k v) j = if j = k then v else atL ls j := by
  unfold atL
  rw [lkA_put]
  split <;> rfl
theorem atL_del {ls : NetM} (h : (ls.map (·.1)).Nodup) (k j : Int × Int) : atL (delA ls k) j = if j = k then [] else atL ls j := by
  unfold atL
  rw [lkA_del h]
  split <;> rfl
theorem allP_put (k : Int × Int) (v : List Pkt) : ∀ ls : NetM, (allP (putA ls k v) ++ atL ls k).Perm (allP ls ++ v)
  | [] => by simp [putA, lkA, allP, atL]
  | x :: ls => by
    rw [putA_cons, atL_cons]
    by_cases h : x.1 = k
    · rw [if_pos h, if_pos h]
      simp only [allP, List.flatMap_cons]
      have h1 : (v ++ List.flatMap (·.2) ls ++ x.2).Perm (x.2 ++ (v ++ List.flatMap (·.2) ls)) := List.perm_append_comm
      refine h1.trans ?_
      rw [List.append_assoc]
      exact List.Perm.append_left _ List.perm_append_comm
    · rw [if_neg h, if_neg h]
      simp only [allP, List.flatMap_cons, List.append_assoc]
      exact List.Perm.append_left _ (allP_put k v ls)
theorem allP_del (k : Int × Int) : ∀ ls : NetM, (allP (delA ls k) ++ atL ls k).Perm (allP ls)
  | [] => by simp [delA, allP, atL, lkA]
  | x :: ls => by
    rw [delA, atL_cons]
    by_cases h : x.1 = k
    · rw [if_pos h, if_pos h]
      simp only [allP, List.flatMap_cons]
      exact List.perm_append_comm
    · rw [if_neg h, if_neg h]
      simp only [allP, List.flatMap_cons, List.append_assoc]
      exact List.Perm.append_left _ (allP_del k ls)
theorem allP_send {ls : NetM} {p : Pkt} (h : fullL ls p = false) : (allP (sendL ls p)).Perm (p :: allP ls) := by
  have e : sendL ls p = putA ls (keyP p) (atL ls (keyP p) ++ [p]) := by rw [sendL, h]; rfl
  rw [e]
  have h1 := allP_put (keyP p) (atL ls (keyP p) ++ [p]) ls
  have h2 : (allP ls ++ (atL ls (keyP p) ++ [p])).Perm ((p :: allP ls) ++ atL ls (keyP p)) := by
    refine (List.Perm.append_left _ List.perm_append_comm).trans ?_
    rw [← List.append_assoc]
    refine List.Perm.append_right _ ?_
    exact List.perm_append_comm
  exact (List.perm_append_right_iff _).1 (h1.trans h2)
theorem perm_at {α : Type} (l : List α) (i : Nat) (h : i < l.length) : (l[i] :: l.eraseIdx i).Perm l := by
  rw [List.eraseIdx_eq_take_drop_succ]
  have e : l.take i ++ l[i] :: l.drop (i + 1) = l := by rw [← List.drop_eq_getElem_cons h, List.take_append_drop]
  have h2 : (l[i] :: (l.take i ++ l.drop (i + 1))).Perm (l.take i ++ l[i] :: l.drop (i + 1)) := List.perm_middle.symm
  rwa [e] at h2
theorem allP_take {ls : NetM} {k : Int × Int} {i : Nat} (h : i < (atL ls k).length) : ((atL ls k)[i] :: allP (takeL ls k i)).Perm (allP ls) := by
  unfold takeL
  split
  · rename_i h1
    have h2 := allP_del k ls
    generalize atL ls k = L at h h1 h2 ⊢
    obtain ⟨p, rfl⟩ := List.length_eq_one_iff.1 h1
    obtain rfl : i = 0 := by simpa using h
    exact (List.perm_append_comm (l₁ := [p])).trans h2
  · have h2 := allP_put k ((atL ls k).eraseIdx i) ls
    have h3 := perm_at (atL ls k) i h
    have h4 : (((atL ls k)[i] :: allP (putA ls k ((atL ls k).eraseIdx i))) ++ (atL ls k).eraseIdx i).Perm (allP ls ++ (atL ls k).eraseIdx i) := by
      refine List.Perm.trans ?_ h2
      have h5 : ((atL ls k)[i] :: allP (putA ls k ((atL ls k).eraseIdx i)) ++ (atL ls k).eraseIdx i).Perm (allP (putA ls k ((atL ls k).eraseIdx i)) ++ ((atL ls k)[i] :: (atL ls k).eraseIdx i)) := by
        rw [List.cons_append]
        exact List.perm_middle.symm
      exact h5.trans (List.Perm.append_left _ h3)
    exact (List.perm_append_right_iff _).1 h4
/-- as a net's packets are -/
structure NInv (ls : NetM) : Prop where
  nd : (ls.map (·.1)).Nodup
  key : ∀ k, ∀ p ∈ atL ls k, keyP p = k ∧ p.2.2.1.length ≤ 262144
  ne : ∀ x ∈ ls, x.2 ≠ []
theorem NInv.nil : NInv [] := ⟨.nil, fun k p h => by simp [atL, lkA] at h, by simp⟩
theorem mem_setA {ls : NetM} {k : Int × Int} {v : List Pkt} {x : (Int × Int) × List Pkt} (h : x ∈ putA ls k v) : x = (k, v) ∨ x ∈ ls := by
  induction ls with
  | nil => simp [putA, lkA] at h; exact .inl h
  | cons y ls ih =>
    rw [putA_cons] at h
    split at h
    · rcases List.mem_cons.1 h with h | h
      · exact .inl h
      · exact .inr (List.mem_cons_of_mem _ h)
    · rcases List.mem_cons.1 h with h | h
      · exact .inr (h ▸ List.mem_cons_self ..)
      · exact (ih h).imp id (List.mem_cons_of_mem _)
theorem NInv.put {ls : NetM} (o : NInv ls) {k : Int × Int} {v : List Pkt} (hv : v ≠ []) (hk : ∀ p ∈ v, keyP p = k ∧ p.2.2.1.length ≤ 262144) : NInv (putA ls k v) where
  nd := putA_nodup o.nd k v
  key j p hp := by
    rw [atL_put] at hp
    split at hp
    · rename_i e; subst e; exact hk p hp
    · exact o.key j p hp
  ne x hx := by
    rcases mem_setA hx with h | h
    · subst h; exact hv
    · exact o.ne x h
theorem NInv.send {ls : NetM} (o : NInv ls) {p : Pkt} (hp : p.2.2.1.length ≤ 262144) : NInv (sendL ls p) := by
  unfold sendL
  split
  · exact o
  · refine o.put (by simp) fun q hq => ?_
    rcases List.mem_append.1 hq with h | h
    · exact o.key _ q h
    · rw [List.mem_singleton.1 h]; exact ⟨rfl, hp⟩
theorem NInv.take {ls : NetM} (o : NInv ls) {k : Int × Int} {i : Nat} (h : i < (atL ls k).length) : NInv (takeL ls k i) := by
  unfold takeL
  split
  · exact ⟨delA_nodup o.nd k, fun j p hp => by
      rw [atL_del o.nd] at hp
      split at hp
      · cases hp
      · exact o.key j p hp, fun x hx => o.ne x ((delA_sub k ls).subset hx)⟩
  · refine o.put (fun e => ?_) fun q hq => o.key _ q (List.mem_of_mem_eraseIdx hq)
    have := List.length_eraseIdx_of_lt h
    rw [e] at this
    simp at this
    omega
theorem atL_mem {ls : NetM} (h : (ls.map (·.1)).Nodup) {x : (Int × Int) × List Pkt} (hx : x ∈ ls) : atL ls x.1 = x.2 := by
  induction ls with
  | nil => cases hx
  | cons y ls ih =>
    rw [List.map_cons, List.nodup_cons] at h
    rw [atL_cons]
    rcases List.mem_cons.1 hx with rfl | hx
    · simp
    · rw [if_neg (fun e : y.1 = x.1 => h.1 (by rw [e]; exact List.mem_map.2 ⟨x, hx, rfl⟩)), ih h.2 hx]
theorem allP_len (ls : NetM) : (allP ls).length = (ls.map fun x => x.2.length).sum := by
  simp [allP, List.length_flatMap]
theorem sum_links {ls : NetM} (h : (ls.map (·.1)).Nodup) : ((linksS ls).map fun k => (atL ls k).length).sum = (allP ls).length := by
  have h1 : (linksS ls).Perm (ls.map (·.1)) := sortF_perm cmp2 _
  rw [(h1.map _).sum_nat, allP_len, List.map_map]
  congr 1
  exact List.map_congr_left fun x hx => by simp only [Function.comp]; rw [atL_mem h hx]
theorem NInv.len {ls : NetM} (o : NInv ls) : ls.length ≤ (allP ls).length := by
  rw [allP_len]
  have h := o.ne
  clear o
  induction ls with
  | nil => simp
  | cons x ls ih =>
    have h1 := h x (List.mem_cons_self ..)
    have h2 := ih fun y hy => h y (List.mem_cons_of_mem _ hy)
    have : 0 < x.2.length := List.length_pos_iff.2 h1
    simp only [List.map_cons, List.sum_cons, List.length_cons]
    omega
theorem mem_allP {ls : NetM} {k : Int × Int} {p : Pkt} (h : p ∈ atL ls k) : p ∈ allP ls := by
  induction ls with
  | nil => simp [atL, lkA] at h
  | cons x ls ih =>
    rw [atL_cons] at h
    simp only [allP, List.flatMap_cons, List.mem_append]
    split at h
    · exact .inl h
    · exact .inr (ih h)

end Go.Proofs.Ythaebmfgelaleaa
