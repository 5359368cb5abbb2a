import Derived.Test.YtkkcpckgnfcncaaGreatDoorRdisk5
open Go Go.Sp
set_option maxRecDepth 100000
attribute [local irreducible] obj Own OwnP
namespace Go.Proofs.YtkkcpckgnfcncaaGreatDoor

/-- what a deed's call tells, and leaves, of the document's -/
def rDeed (m : RefM) (x : DeedT) : Int × RefM :=
  if pick x.1 7 = 2 then (rSyncE m x.2.2.1, rSyncM m x.2.2.1)
  else if pick x.1 7 = 3 then (rCutE m x.2.2.1 x.2.1, rCutM m x.2.2.1 x.2.1)
  else if pick x.1 7 = 4 then (rRenE m x.2.2.1 x.2.2.2.1, rRenM m x.2.2.1 x.2.2.2.1)
  else if pick x.1 7 = 5 then (rRemE m x.2.2.1, rRemM m x.2.2.1)
  else if pick x.1 7 = 6 then (0, rCrash m x.2.1)
  else (rAppE m x.2.2.1 x.2.2.2.2.1, rAppM m x.2.2.1 x.2.2.2.2.1)
theorem file_len {s l : List UInt8} {f : List (UInt8 × Bool)} (h : f = (s.map fun c => (c, true)) ++ l.map fun c => (c, false)) : f.length = (s ++ l).length ∧ (f.filter (·.2)).length = s.length ∧ f.map (·.1) = s ++ l := by
  subst h
  refine ⟨by simp, ?_, ?_⟩
  · rw [List.filter_append, List.filter_eq_self.2 (by intro x hx; obtain ⟨c, _, rfl⟩ := List.mem_map.1 hx; rfl), List.filter_eq_nil_iff.2 (by intro x hx; obtain ⟨c, _, rfl⟩ := List.mem_map.1 hx; simp)]; simp
  · rw [List.map_append, List.map_map, List.map_map]
    have e1 : ∀ l : List UInt8, l.map ((fun x : UInt8 × Bool => x.1) ∘ fun c => (c, true)) = l := fun l => by induction l <;> simp_all
    have e2 : ∀ l : List UInt8, l.map ((fun x : UInt8 × Bool => x.1) ∘ fun c => (c, false)) = l := fun l => by induction l <;> simp_all
    rw [e1, e2]
theorem Rel.room {m : RefM} {v : View} (r : Rel m v) (z : Int) : Rel ⟨m.names, m.cells, z⟩ v := ⟨r.nd, r.own, r.file, r.absn⟩
theorem Rel.sync {m : RefM} {v : View} (r : Rel m v) (n : List UInt8) : match v n with
    | none => rSyncE m n = 6 ∧ rSyncM m n = m
    | some f => rSyncE m n = 0 ∧ Rel (rSyncM m n) (vUpd v n (some (f.1 ++ f.2, []))) := by
  by_cases h : ownR n m.names 0 < 0
  · rw [r.own_none h]; unfold rSyncE rSyncM; rw [if_pos h, if_pos h]; exact ⟨rfl, rfl⟩
  · obtain ⟨o, e, hn, h0, s, l, hv, hf⟩ := r.own_some h
    rw [hv]
    unfold rSyncE rSyncM; rw [if_neg h, if_neg h, e]
    refine ⟨rfl, ?_⟩
    have := r.keep hn h0 hv (cAll (o : Int) m.cells : Int)
    rw [cAll_file, (file_len hf).1, Int.toNat_natCast, List.take_length] at this
    rw [cAll_file, (file_len hf).1]; exact this
theorem Rel.cut {m : RefM} {v : View} (r : Rel m v) (n : List UInt8) (z : Int) : match v n with
    | none => rCutE m n z = 6 ∧ rCutM m n z = m
    | some f => if z < 0 ∨ ((f.1 ++ f.2).length : Int) < z then rCutE m n z = 2 ∧ rCutM m n z = m else rCutE m n z = 0 ∧ Rel (rCutM m n z) (vUpd v n (some ((f.1 ++ f.2).take z.toNat, []))) := by
  by_cases h : ownR n m.names 0 < 0
  · rw [r.own_none h]
    have e : rCutE m n z = 6 := by unfold rCutE; rw [if_pos h]
    exact ⟨e, by unfold rCutM; rw [e]; rfl⟩
  · obtain ⟨o, e, hn, h0, s, l, hv, hf⟩ := r.own_some h
    rw [hv]
    simp only
    have hc : rCutE m n z = if z < 0 ∨ ((s ++ l).length : Int) < z then 2 else 0 := by unfold rCutE; rw [if_neg h, e, cAll_file, (file_len hf).1]
    split
    · rename_i hz
      have e2 : rCutE m n z = 2 := by rw [hc, if_pos hz]
      exact ⟨e2, by unfold rCutM; rw [e2]; rfl⟩
    · rename_i hz
      have e2 : rCutE m n z = 0 := by rw [hc, if_neg hz]
      refine ⟨e2, ?_⟩
      unfold rCutM; rw [if_pos e2, e]
      exact r.keep hn h0 hv z
theorem Rel.rem {m : RefM} {v : View} (r : Rel m v) (n : List UInt8) : match v n with
    | none => rRemE m n = 6 ∧ rRemM m n = m
    | some _ => rRemE m n = 0 ∧ Rel (rRemM m n) (vUpd v n none) := by
  by_cases h : ownR n m.names 0 < 0
  · rw [r.own_none h]; unfold rRemE rRemM; rw [if_pos h, if_pos h]; exact ⟨rfl, rfl⟩
  · obtain ⟨o, e, hn, h0, s, l, hv, hf⟩ := r.own_some h
    rw [hv]
    unfold rRemE rRemM; rw [if_neg h, if_neg h, e, Int.toNat_natCast]
    exact ⟨rfl, r.gone hn h0⟩
theorem ok_ne {n : List UInt8} (h : nameOk n = true) : n ≠ [] := by rintro rfl; cases h
theorem Rel.ren {m : RefM} {v : View} (r : Rel m v) (a b : List UInt8) : if nameOk a && nameOk b then (match v a with
      | none => rRenE m a b = 6 ∧ rRenM m a b = m
      | some f => rRenE m a b = 0 ∧ Rel (rRenM m a b) (vUpd (vUpd v a none) b (some f))) else rRenE m a b = 2 ∧ rRenM m a b = m := by
  split
  · rename_i hok
    have h0 : rRenE m a b = if ownR a m.names 0 < 0 then 6 else 0 := by unfold rRenE; rw [if_pos hok]
    rw [Bool.and_eq_true] at hok
    by_cases h : ownR a m.names 0 < 0
    · rw [r.own_none h]
      have e : rRenE m a b = 6 := by rw [h0, if_pos h]
      exact ⟨e, by unfold rRenM; rw [e]; rfl⟩
    · obtain ⟨o, e, hn, ha0, s, l, hv, hf⟩ := r.own_some h
      have hb0 := ok_ne hok.2
      rw [hv]
      have e2 : rRenE m a b = 0 := by rw [h0, if_neg h]
      refine ⟨e2, ?_⟩
      unfold rRenM; rw [if_pos e2, e, Int.toNat_natCast]
      unfold rOut
      rw [e]
      by_cases hb : ownR b m.names 0 < 0
      · rw [if_neg fun q => by omega]
        have hnb : b ∉ neN m.names := fun hm => by
          rcases ownR_spec b m.names 0 with ⟨_, q⟩ | ⟨j, q, _⟩
          · rcases q with q | q
            · exact hb0 q
            · exact q (neN_mem.1 hm).1
          · omega
        exact r.anew hn ha0 hb0 hnb hv
      · obtain ⟨p, e3, hp, _, s3, l3, hv3, _⟩ := r.own_some hb
        rw [e3]
        by_cases hpo : p = o
        · subst hpo
          rw [hn] at hp; cases hp
          rw [if_neg fun q => q.2 rfl]
          have hse : m.names.set p a = m.names := by obtain ⟨ho, e5⟩ := List.getElem?_eq_some_iff.1 hn; rw [← e5]; exact List.set_getElem_self ho
          rw [hse]
          refine (r.room _).ext fun k => ?_
          unfold vUpd
          by_cases hk : k = a
          · rw [if_pos hk, hk, hv]
          · rw [if_neg hk, if_neg hk]
        · rw [if_pos ⟨by omega, by omega⟩, Int.toNat_natCast]
          simp only
          have r2 := r.gone hp hb0
          have hab : a ≠ b := fun q => hpo (by subst q; exact (nd_inj r.nd hp hn ha0))
          have r3 := r2.anew (a := a) (o := o) (b := b) (f := (s, l)) (by simp only; rw [List.getElem?_set_ne hpo]; exact hn) ha0 hb0 (by simp only; exact fun hm => ((neN_set hp r.nd hb0).2 b).1 hm |>.2 rfl) (by unfold vUpd; rw [if_neg hab]; exact hv)
          refine r3.ext fun k => ?_
          unfold vUpd
          by_cases hk : k = b
          · rw [if_pos hk, if_pos hk]
          · rw [if_neg hk, if_neg hk, if_neg hk]
  · rename_i hok
    have e : rRenE m a b = 2 := by unfold rRenE; rw [if_neg hok]
    exact ⟨e, by unfold rRenM; rw [e]; rfl⟩
theorem Rel.app {m : RefM} {v : View} (r : Rel m v) (n b : List UInt8) : if nameOk n then (if m.room < (m.cells.length : Int) + b.length then rAppE m n b = 8 ∧ rAppM m n b = m
      else rAppE m n b = 0 ∧ Rel (rAppM m n b) (vUpd v n (some (((v n).getD ([], [])).1, ((v n).getD ([], [])).2 ++ b)))) else rAppE m n b = 2 ∧ rAppM m n b = m := by
  split
  · rename_i hok
    have h0 := ok_ne hok
    split
    · rename_i hf
      have e : rAppE m n b = 8 := by unfold rAppE; rw [if_pos hok, if_pos hf]
      exact ⟨e, by unfold rAppM; rw [e]; rfl⟩
    · rename_i hf
      have e : rAppE m n b = 0 := by unfold rAppE; rw [if_pos hok, if_neg hf]
      refine ⟨e, ?_⟩
      unfold rAppM; rw [if_pos e]
      unfold rApp rNames rOwn
      by_cases h : ownR n m.names 0 < 0
      · rw [if_pos h, if_pos h, r.own_none h]
        have hnn : n ∉ neN m.names := fun hm => by
          rcases ownR_spec n m.names 0 with ⟨_, q⟩ | ⟨j, q, _⟩
          · rcases q with q | q
            · exact h0 q
            · exact q (neN_mem.1 hm).1
          · omega
        have r2 := r.born h0 hnn
        have r3 := r2.more (o := m.names.length) (n := n) (s := []) (l := []) (b := b) (by simp) h0 (by unfold vUpd; rw [if_pos rfl])
        refine r3.ext fun k => ?_
        unfold vUpd
        by_cases hk : k = n
        · rw [if_pos hk, if_pos hk]; rfl
        · rw [if_neg hk, if_neg hk, if_neg hk]
      · obtain ⟨o, e2, hn, _, s, l, hv, _⟩ := r.own_some h
        rw [if_neg h, if_neg h, hv, e2]
        exact r.more hn h0 hv
  · rename_i hok
    have e : rAppE m n b = 2 := by unfold rAppE; rw [if_neg hok]
    exact ⟨e, by unfold rAppM; rw [e]; rfl⟩
def crK (keep : Int) (f : List (UInt8 × Bool)) : Nat := (((f.filter (·.2)).length : Int) + min (max keep 0) ((f.length : Int) - ((f.filter (·.2)).length : Int))).toNat
theorem crash_file (keep : Int) (cells : List CellM) : ∀ (i o : Nat), fileR (o : Int) (crashN keep cells i) = if o < i then ((fileR (o : Int) cells).take (crK keep (fileR (o : Int) cells))).map fun x => (x.1, true) else fileR (o : Int) cells
  | 0, o => by rw [if_neg (Nat.not_lt_zero o)]; rfl
  | i + 1, o => by
    have ih := crash_file keep cells i
    rw [crashN_succ]
    unfold crashL
    by_cases h : o = i
    · subst h
      have io := ih o
      rw [if_neg (Nat.lt_irrefl o)] at io
      rw [keep_file, cAll_file, cSafe_file, io, if_pos (Nat.lt_succ_self o)]; rfl
    · rw [keep_other (by omega), ih o]
      by_cases h2 : o < i
      · rw [if_pos h2, if_pos (by omega)]
      · rw [if_neg h2, if_neg (by omega)]
theorem crash_own (keep : Int) (cells : List CellM) : ∀ i, ∀ y ∈ crashN keep cells i, ∃ x ∈ cells, x.1 = y.1
  | 0, y, hy => ⟨y, hy, rfl⟩
  | i + 1, y, hy => by
    rw [crashN_succ] at hy
    obtain ⟨x, hx, e⟩ := keep_own _ _ _ y hy
    obtain ⟨z, hz, e2⟩ := crash_own keep cells i x hx
    exact ⟨z, hz, e2.trans e⟩
theorem Rel.crash {m : RefM} {v : View} (r : Rel m v) (keep : Int) : Rel (rCrash m keep) fun k => (v k).map fun f => (crashB keep f.1 f.2, []) := by
  refine ⟨r.nd, fun x hx => ?_, fun o k hk h0 => ?_, fun k hk => ?_⟩
  · obtain ⟨y, hy, e⟩ := crash_own _ _ _ x hx
    rw [← e]; exact r.own y hy
  · obtain ⟨s, l, hv, hf⟩ := r.file o k hk h0
    refine ⟨crashB keep s l, [], by rw [hv]; rfl, ?_⟩
    have ho : o < m.names.length := (List.getElem?_eq_some_iff.1 hk).1
    show fileR (o : Int) (crashN keep m.cells m.names.length) = _
    rw [crash_file, if_pos ho, hf, file_bytes]
    obtain ⟨h1, h2, _⟩ := file_len (f := (s.map fun c => (c, true)) ++ l.map fun c => (c, false)) rfl
    have hK : crK keep ((s.map fun c => (c, true)) ++ l.map fun c => (c, false)) = s.length + kk keep l.length := by
      unfold crK; rw [h1, h2, List.length_append]; unfold kk; omega
    rw [hK]; unfold crashB; simp
  · show (v k).map _ = none
    rw [r.absn k hk]; rfl
theorem Rel.step {m : RefM} {v : View} (r : Rel m v) (x : DeedT) : (rDeed m x).1 = (vDeed v (decide (¬ m.room < (m.cells.length : Int) + x.2.2.2.2.1.length)) x).1 ∧ Rel (rDeed m x).2 (vDeed v (decide (¬ m.room < (m.cells.length : Int) + x.2.2.2.2.1.length)) x).2 := by
  unfold rDeed vDeed
  split
  · have := r.sync x.2.2.1
    split
    · rename_i hv; rw [hv] at this; simp only at this ⊢; rw [this.2]; exact ⟨this.1, r⟩
    · rename_i f hv; rw [hv] at this; exact this
  · split
    · have := r.cut x.2.2.1 x.2.1
      split
      · rename_i hv; rw [hv] at this; simp only at this ⊢; rw [this.2]; exact ⟨this.1, r⟩
      · rename_i f hv
        rw [hv] at this
        simp only at this ⊢
        split
        · rename_i hz; rw [if_pos hz] at this; rw [this.2]; exact ⟨this.1, r⟩
        · rename_i hz; rw [if_neg hz] at this; exact this
    · split
      · have := r.ren x.2.2.1 x.2.2.2.1
        split
        · rename_i hok
          rw [if_pos hok] at this
          split
          · rename_i hv; rw [hv] at this; simp only at this ⊢; rw [this.2]; exact ⟨this.1, r⟩
          · rename_i f hv; rw [hv] at this; exact this
        · rename_i hok
          rw [if_neg hok] at this; simp only; rw [this.2]; exact ⟨this.1, r⟩
      · split
        · have := r.rem x.2.2.1
          split
          · rename_i hv; rw [hv] at this; simp only at this ⊢; rw [this.2]; exact ⟨this.1, r⟩
          · rename_i f hv; rw [hv] at this; exact this
        · split
          · exact ⟨rfl, r.crash _⟩
          · have := r.app x.2.2.1 x.2.2.2.2.1
            split
            · rename_i hok
              rw [if_pos hok] at this
              by_cases hz : m.room < (m.cells.length : Int) + x.2.2.2.2.1.length
              · rw [if_pos hz] at this
                simp only [hz, not_true_eq_false, decide_false, Bool.false_eq_true, if_false]
                rw [this.2]; exact ⟨this.1, r⟩
              · rw [if_neg hz] at this
                simp only [hz, not_false_eq_true, decide_true, if_true]
                exact this
            · rename_i hok
              rw [if_neg hok] at this; simp only; rw [this.2]; exact ⟨this.1, r⟩
/-- how many bytes -/
def szV (v : View) (k : List UInt8) : Nat := match v k with | none => 0 | some f => f.1.length + f.2.length
theorem sum_keys : ∀ (ks : List (List UInt8)) {m : SS} {c : Nat}, ks.Nodup → WfT m c → (∀ k, (getT m k).isSome = true → k ∈ ks) → sumT m = (ks.map fun k => ((getT m k).getD []).length).sum
  | [], m, c, _, h, hk => by
    rw [sumT_zero (m := m) (fun k => by cases hg : getT m k with | none => rfl | some x => exact absurd (hk k (by rw [hg]; rfl)) (by simp)) h.2.2]; rfl
  | k :: ks, m, c, hn, h, hk => by
    rw [List.nodup_cons] at hn
    have ih := sum_keys ks hn.2 (delT_wf h k) fun j hj => by
      rw [getT_del h.2.2] at hj
      split at hj
      · cases hj
      · rename_i e; exact (List.mem_cons.1 (hk j hj)).resolve_left e
    have := sumT_del m k
    rw [List.map_cons, List.sum_cons]
    have e : (ks.map fun j => ((getT (delT m k) j).getD []).length) = ks.map fun j => ((getT m j).getD []).length := List.map_congr_left fun j hj => by
      rw [getT_del h.2.2, if_neg fun q => hn.1 (by rw [← q]; exact hj)]
    rw [e] at ih; omega
theorem used_keys {m : DiskM} (ok : DOk m) : m.used = ((m.safe.map (·.1)).map (szV (vOf m))).sum := by
  have h1 := sum_keys (m.safe.map (·.1)) ok.w1.2.2 ok.w1 fun k hk => has_mem.1 hk
  have h2 := sum_keys (m.safe.map (·.1)) ok.w1.2.2 ok.w2 fun k hk => has_mem.1 (ok.sub k hk)
  unfold DiskM.used
  rw [h1, h2]
  have key : ∀ ks : List (List UInt8), (∀ k ∈ ks, (getT m.safe k).isSome = true) → (ks.map fun k => ((getT m.safe k).getD []).length).sum + (ks.map fun k => ((getT m.loose k).getD []).length).sum = (ks.map (szV (vOf m))).sum := fun ks => by
    induction ks with
    | nil => intro _; rfl
    | cons k ks ih =>
      intro hk
      have := ih fun j hj => hk j (List.mem_cons_of_mem _ hj)
      simp only [List.map_cons, List.sum_cons]
      have hz : szV (vOf m) k = ((getT m.safe k).getD []).length + ((getT m.loose k).getD []).length := by
        obtain ⟨s, hs⟩ := Option.isSome_iff_exists.1 (hk k (List.mem_cons_self ..))
        unfold szV vOf; rw [hs]; rfl
      omega
  exact key _ fun k hk => has_mem.2 hk
theorem cells_sum (n : Nat) : ∀ cells : List CellM, (∀ x ∈ cells, ∃ o : Nat, x.1 = (o : Int) ∧ o < n) → cells.length = ((List.range n).map fun o : Nat => (fileR (o : Int) cells).length).sum
  | [], _ => by
    have : ∀ l : List Nat, (l.map fun _ => 0).sum = 0 := fun l => by induction l <;> simp_all
    exact (this _).symm
  | x :: cells, h => by
    have ih := cells_sum n cells fun y hy => h y (List.mem_cons_of_mem _ hy)
    obtain ⟨o, e, ho⟩ := h x (List.mem_cons_self ..)
    have e1 : ∀ p : Nat, (fileR (p : Int) (x :: cells)).length = (fileR (p : Int) cells).length + if p = o then 1 else 0 := fun p => by
      rw [fileR_cons]
      by_cases hp : p = o
      · subst hp; rw [if_pos e, if_pos rfl]; rfl
      · rw [if_neg (by rw [e]; omega), if_neg hp]; rfl
    have e2 : ∀ l : List Nat, l.Nodup → (l.map fun p : Nat => (fileR (p : Int) (x :: cells)).length).sum = (l.map fun p : Nat => (fileR (p : Int) cells).length).sum + if o ∈ l then 1 else 0 := fun l => by
      induction l with
      | nil => intro _; simp
      | cons p l ih2 =>
        intro hn
        rw [List.nodup_cons] at hn
        have := ih2 hn.2
        simp only [List.map_cons, List.sum_cons]
        rw [e1 p, this]
        by_cases hp : p = o
        · subst hp; rw [if_pos rfl, if_neg hn.1, if_pos (List.mem_cons_self ..)]; omega
        · rw [if_neg hp]
          by_cases hm : o ∈ l
          · rw [if_pos hm, if_pos (List.mem_cons_of_mem _ hm)]; omega
          · rw [if_neg hm, if_neg fun q => (List.mem_cons.1 q).elim (fun q => hp q.symm) hm]; omega
    rw [e2 _ List.nodup_range, if_pos (List.mem_range.2 ho), List.length_cons]; omega
theorem Rel.cells_len {m : RefM} {v : View} (r : Rel m v) : m.cells.length = ((neN m.names).map (szV v)).sum := by
  rw [cells_sum m.names.length m.cells fun x hx => by
    obtain ⟨o, e, k, hk, _⟩ := r.own x hx
    exact ⟨o, e, (List.getElem?_eq_some_iff.1 hk).1⟩]
  have e1 : ((List.range m.names.length).map fun o : Nat => (fileR (o : Int) m.cells).length) = m.names.map fun k => if k = [] then 0 else szV v k := by
    refine List.ext_getElem (by simp) fun i h1 h2 => ?_
    have hi : i < m.names.length := by simpa using h2
    simp only [List.getElem_map, List.getElem_range]
    split
    · rename_i h0
      refine List.length_eq_zero_iff.2 ?_
      unfold fileR
      rw [List.filter_eq_nil_iff.2 fun x hx => ?_]; rfl
      obtain ⟨o, e, k, hk, hk0⟩ := r.own x hx
      intro q
      have : o = i := by rw [e] at q; simp at q; omega
      subst this
      rw [List.getElem?_eq_getElem hi] at hk; cases hk; exact hk0 h0
    · rename_i h0
      obtain ⟨s, l, hv, hf⟩ := r.file i m.names[i] (List.getElem?_eq_getElem hi) h0
      rw [(file_len hf).1]; unfold szV; rw [hv, List.length_append]
  rw [e1]
  have : ∀ l : List (List UInt8), (l.map fun k => if k = [] then 0 else szV v k).sum = ((neN l).map (szV v)).sum := fun l => by
    induction l with
    | nil => rfl
    | cons k l ih =>
      unfold neN at ih ⊢
      rw [List.filter_cons]
      by_cases h : k = []
      · subst h; simpa using ih
      · simp [h]; exact ih
  exact this _
theorem Rel.keys {m : RefM} {d : DiskM} (r : Rel m (vOf d)) (ok : DOk d) : (d.safe.map (·.1)).Perm (neN m.names) := by
  refine (List.perm_ext_iff_of_nodup ok.w1.2.2 r.nd).2 fun k => ?_
  rw [← has_mem]
  constructor
  · intro h
    refine Classical.byContradiction fun q => ?_
    have := r.absn k q
    unfold vOf at this
    obtain ⟨s, hs⟩ := Option.isSome_iff_exists.1 h
    rw [hs] at this; cases this
  · intro h
    obtain ⟨h1, h2⟩ := neN_mem.1 h
    obtain ⟨o, ho, e⟩ := List.getElem_of_mem h1
    obtain ⟨s, l, hv, _⟩ := r.file o k (by rw [List.getElem?_eq_getElem ho, e]) h2
    unfold vOf at hv
    cases hg : getT d.safe k with
    | none => rw [hg] at hv; cases hv
    | some _ => rfl
theorem Rel.used {m : RefM} {d : DiskM} (r : Rel m (vOf d)) (ok : DOk d) : d.used = m.cells.length := by
  rw [used_keys ok, r.cells_len]
  exact ((r.keys ok).map _).sum_nat
theorem Rel.list {m : RefM} {d : DiskM} (r : Rel m (vOf d)) (ok : DOk d) : namesT d.safe = rList m.names := sortT_unique (r.keys ok)
theorem Rel.read {m : RefM} {d : DiskM} (r : Rel m (vOf d)) (ok : DOk d) (n : List UInt8) : refReadB n m.names m.cells = dRead d n ∧ refReadE n m.names = dSyncE d n := by
  unfold refReadB refReadE dRead dSyncE
  by_cases h : ownR n m.names 0 < 0
  · have hv := r.own_none h
    rw [if_pos h, if_pos h, has_view' hv]; exact ⟨rfl, rfl⟩
  · obtain ⟨o, e, hn, h0, s, l, hv, hf⟩ := r.own_some h
    rw [if_neg h, if_neg h, has_view hv, bytes_view ok hv, e, rdR_file, (file_len hf).2.2]; exact ⟨rfl, rfl⟩

end Go.Proofs.YtkkcpckgnfcncaaGreatDoor
