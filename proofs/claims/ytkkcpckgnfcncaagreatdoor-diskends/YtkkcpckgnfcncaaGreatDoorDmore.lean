import Derived.Test.YtkkcpckgnfcncaaGreatDoorDlight
open Go Go.Sp
set_option maxRecDepth 100000
attribute [local irreducible] obj Own OwnP
namespace Go.Proofs.YtkkcpckgnfcncaaGreatDoor

/-- what a disk has of a file: its safe bytes, and the loose ones -/
abbrev View : Type := List UInt8 → Option (List UInt8 × List UInt8)
def vOf (m : DiskM) : View := fun k => (getT m.safe k).map fun s => (s, (getT m.loose k).getD [])
theorem vOf_has (m : DiskM) (k : List UInt8) : dHas m k = (vOf m k).isSome := by unfold dHas vOf; cases getT m.safe k <;> rfl
theorem vOf_loose {m : DiskM} (ok : DOk m) {k : List UInt8} (h : vOf m k = none) : getT m.loose k = none := by
  have h1 : getT m.safe k = none := by unfold vOf at h; simpa using h
  cases hl : getT m.loose k with
  | none => rfl
  | some x => have := ok.sub k (by rw [hl]; rfl); rw [h1] at this; cases this
theorem vOf_bytes {m : DiskM} (ok : DOk m) (k : List UInt8) : dBytes m k = match vOf m k with | none => [] | some (s, l) => s ++ l := by
  cases h : vOf m k with
  | none =>
    have h1 : getT m.safe k = none := by unfold vOf at h; simpa using h
    unfold dBytes bytesT; rw [h1, vOf_loose ok h]; rfl
  | some x =>
    unfold vOf at h
    obtain ⟨s, hs, rfl⟩ := Option.map_eq_some_iff.1 h
    unfold dBytes bytesT; rw [hs]; rfl
theorem vOf_app {m : DiskM} (ok : DOk m) (n b k : List UInt8) : vOf (dApp m n b) k = if k = n then some (((vOf m n).getD ([], [])).1, ((vOf m n).getD ([], [])).2 ++ b) else vOf m k := by
  have hl : ((vOf m n).getD ([], [])).2 = (getT m.loose n).getD [] := by
    cases h : vOf m n with
    | none => rw [vOf_loose ok h]; rfl
    | some x => unfold vOf at h; obtain ⟨s, hs, rfl⟩ := Option.map_eq_some_iff.1 h; rfl
  have hs : ((vOf m n).getD ([], [])).1 = (getT m.safe n).getD [] := by unfold vOf; cases getT m.safe n <;> rfl
  rw [hl, hs]
  unfold vOf dApp
  simp only
  rw [getT_put]
  by_cases e : k = n
  · subst e
    rw [if_pos rfl, if_pos rfl]
    split
    · rename_i hb; subst hb; simp
    · rw [getT_put, if_pos rfl]; rfl
  · rw [if_neg e, if_neg e]
    split
    · rfl
    · rw [getT_put, if_neg e]
theorem vOf_firm {m : DiskM} (ok : DOk m) (n : List UInt8) (j : Nat) (k : List UInt8) : vOf (dFirm m n j) k = if k = n then some ((dBytes m n).take j, []) else vOf m k := by
  unfold vOf dFirm
  simp only
  rw [getT_put, getT_del ok.w2.2.2]
  by_cases e : k = n
  · subst e; rw [if_pos rfl, if_pos rfl, if_pos rfl]; rfl
  · rw [if_neg e, if_neg e, if_neg e]
theorem vOf_crash {m : DiskM} {s' l' : SS} {c1' c2' : Nat} {keep : Int} (h : CrashR m.safe m.loose s' l' c1' c2' keep) (k : List UInt8) : vOf ⟨s', c1', l', c2', m.room⟩ k = (vOf m k).map fun x => (crashB keep x.1 x.2, []) := by
  unfold vOf; simp only; rw [h.safe, h.loose]; cases getT m.safe k <;> rfl
/-- pairs of a map -/
def pairsT (m : SS) : List (List UInt8 × List UInt8) := m.map fun x => (x.1, x.2.1)
theorem pairs_mem {m : SS} {c : Nat} (h : WfT m c) (k v : List UInt8) : (k, v) ∈ pairsT m ↔ getT m k = some v := by
  constructor
  · intro hm
    obtain ⟨x, hx, he⟩ := List.mem_map.1 hm
    simp only [Prod.mk.injEq] at he
    obtain ⟨rfl, rfl⟩ := he
    exact getT_mem h.2.2 hx
  · intro hg
    clear h
    induction m with
    | nil => simp [getT] at hg
    | cons x m ih =>
      simp only [getT] at hg
      split at hg
      · rename_i e; cases hg; subst e; simp [pairsT]
      · exact List.mem_cons_of_mem _ (ih hg)
theorem pairs_nodup {m : SS} {c : Nat} (h : WfT m c) : (pairsT m).Nodup := by
  have : ((pairsT m).map (·.1)).Nodup := by simpa [pairsT, Function.comp_def] using h.2.2
  exact (List.pairwise_map.1 this).imp fun h e => h (by rw [e])
theorem sumT_congr {m m' : SS} {c c' : Nat} (h : WfT m c) (h' : WfT m' c') (he : ∀ k, getT m k = getT m' k) : sumT m = sumT m' := by
  have hp : (pairsT m).Perm (pairsT m') := (List.perm_ext_iff_of_nodup (pairs_nodup h) (pairs_nodup h')).2 fun ⟨k, v⟩ => by rw [pairs_mem h, pairs_mem h', he]
  have e : ∀ m : SS, sumT m = ((pairsT m).map fun x => x.2.length).sum := fun m => by simp [sumT, pairsT, Function.comp_def]
  rw [e, e]
  exact (hp.map _).sum_nat

end Go.Proofs.YtkkcpckgnfcncaaGreatDoor
