import Derived.Test.YtkkcpckgnfcncaaGreatDoorDfirm2
import Derived.Test.YtkkcpckgnfcncaaGreatDoorSpLast
open Go Go.Sp
set_option maxRecDepth 100000
attribute [local irreducible] obj Own OwnP
namespace Go.Proofs.YtkkcpckgnfcncaaGreatDoor

def vUpd (v : View) (n : List UInt8) (f : Option (List UInt8 × List UInt8)) : View := fun k => if k = n then f else v k
/-- what a deed tells, and leaves, of what a disk has -/
def vDeed (v : View) (fits : Bool) (x : DeedT) : Int × View :=
  if pick x.1 7 = 2 then
    match v x.2.2.1 with
    | none => (6, v)
    | some f => (0, vUpd v x.2.2.1 (some (f.1 ++ f.2, [])))
  else if pick x.1 7 = 3 then
    match v x.2.2.1 with
    | none => (6, v)
    | some f => if x.2.1 < 0 ∨ ((f.1 ++ f.2).length : Int) < x.2.1 then (2, v) else (0, vUpd v x.2.2.1 (some ((f.1 ++ f.2).take x.2.1.toNat, [])))
  else if pick x.1 7 = 4 then
    if nameOk x.2.2.1 && nameOk x.2.2.2.1 then
      match v x.2.2.1 with
      | none => (6, v)
      | some f => (0, vUpd (vUpd v x.2.2.1 none) x.2.2.2.1 (some f))
    else (2, v)
  else if pick x.1 7 = 5 then
    match v x.2.2.1 with
    | none => (6, v)
    | some _ => (0, vUpd v x.2.2.1 none)
  else if pick x.1 7 = 6 then (0, fun k => (v k).map fun f => (crashB x.2.1 f.1 f.2, []))
  else if nameOk x.2.2.1 then
    if fits then (0, vUpd v x.2.2.1 (some (((v x.2.2.1).getD ([], [])).1, ((v x.2.2.1).getD ([], [])).2 ++ x.2.2.2.2.1))) else (8, v)
  else (2, v)
theorem has_view {m : DiskM} {n : List UInt8} {f : List UInt8 × List UInt8} (h : vOf m n = some f) : dHas m n = true := by rw [vOf_has, h]; rfl
theorem has_view' {m : DiskM} {n : List UInt8} (h : vOf m n = none) : dHas m n = false := by rw [vOf_has, h]; rfl
theorem bytes_view {m : DiskM} (ok : DOk m) {n : List UInt8} {f : List UInt8 × List UInt8} (h : vOf m n = some f) : dBytes m n = f.1 ++ f.2 := by rw [vOf_bytes ok, h]
theorem DStep.view {m m' : DiskM} {x : DeedT} {e : Int} (ok : DOk m) (h : DStep m x e m') : (e, vOf m') = vDeed (vOf m) (decide (¬ m.room < (m.used : Int) + x.2.2.2.2.1.length)) x := by
  unfold DStep at h
  unfold vDeed
  split at h
  · rw [if_pos (by assumption)]
    obtain ⟨rfl, rfl⟩ := h
    cases hv : vOf m x.2.2.1 with
    | none =>
      simp only
      unfold dSyncE dSyncM; rw [has_view' hv]; rfl
    | some f =>
      simp only
      unfold dSyncE dSyncM; rw [has_view hv]
      simp only [if_true]
      refine Prod.ext rfl (funext fun k => ?_)
      show vOf _ k = _
      rw [vOf_firm ok, List.take_length, bytes_view ok hv]; rfl
  · rw [if_neg (by assumption)]
    split at h
    · rw [if_pos (by assumption)]
      obtain ⟨rfl, rfl⟩ := h
      cases hv : vOf m x.2.2.1 with
      | none =>
        simp only
        unfold dCutM dCutE; rw [has_view' hv]; rfl
      | some f =>
        simp only
        unfold dCutM dCutE; rw [has_view hv, bytes_view ok hv]
        simp only [if_true]
        split
        · rfl
        · refine Prod.ext rfl (funext fun k => ?_)
          show vOf _ k = _
          rw [if_pos rfl, vOf_firm ok, bytes_view ok hv]; rfl
    · rw [if_neg (by assumption)]
      split at h
      · rw [if_pos (by assumption)]
        obtain ⟨rfl, rfl⟩ := h
        unfold dRenM dRenE
        split
        · cases hv : vOf m x.2.2.1 with
          | none => rw [has_view' hv]; rfl
          | some f =>
            rw [has_view hv]
            simp only [if_true]
            refine Prod.ext rfl (funext fun k => ?_)
            show vOf _ k = _
            rw [vOf_ren ok _ _ _ (has_view hv), hv]; rfl
        · rfl
      · rw [if_neg (by assumption)]
        split at h
        · rw [if_pos (by assumption)]
          obtain ⟨rfl, rfl⟩ := h
          cases hv : vOf m x.2.2.1 with
          | none =>
            simp only
            unfold dRemE dRemM; rw [has_view' hv]; rfl
          | some f =>
            simp only
            unfold dRemE dRemM; rw [has_view hv]
            simp only [if_true]
            refine Prod.ext rfl (funext fun k => ?_)
            show vOf _ k = _
            rw [vOf_gone ok]; rfl
        · rw [if_neg (by assumption)]
          split at h
          · rw [if_pos (by assumption)]
            obtain ⟨rfl, s', c1', l', c2', hc, rfl⟩ := h
            refine Prod.ext rfl (funext fun k => ?_)
            show vOf _ k = _
            rw [vOf_crash hc]
          · rw [if_neg (by assumption)]
            obtain ⟨rfl, rfl⟩ := h
            unfold dAppM dAppE
            split
            · by_cases hr : m.room < (m.used : Int) + x.2.2.2.2.1.length
              · rw [if_pos hr]; simp [hr]
              · rw [if_neg hr, if_pos rfl]
                simp only [hr, not_false_eq_true, decide_true, if_true]
                refine Prod.ext rfl (funext fun k => ?_)
                show vOf _ k = _
                rw [vOf_app ok]; rfl
            · rfl

end Go.Proofs.YtkkcpckgnfcncaaGreatDoor
