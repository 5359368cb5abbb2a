import Derived.Test.YtcghiboamlaenaaDoorJourn12
open Go Go.Sp
set_option maxRecDepth 100000
attribute [local irreducible] obj Own OwnP
namespace Go.Proofs.YtcghiboamlaenaaDoor

/-- a file of whole entries, all of them safe -/
structure CI (R0 : Int) (n : List UInt8) (m : DiskM) (all : List Ent) : Prop where
  ok : DOk m
  room : m.room = R0
  has : dHas m n = true
  loose : getT m.loose n = none
  bytes : dBytes m n = flatE all
  right : firstErr all = 0
theorem dFirm_loose {m : DiskM} (ok : DOk m) (n : List UInt8) (k : Nat) : getT (dFirm m n k).loose n = none := by
  unfold dFirm; simp only; rw [getT_del ok.w2.2.2, if_pos rfl]
theorem dSync_loose {m : DiskM} (ok : DOk m) (n : List UInt8) (h : dHas m n = true) : getT (dSyncM m n).loose n = none ∧ dHas (dSyncM m n) n = true ∧ dBytes (dSyncM m n) n = dBytes m n := by
  unfold dSyncM; rw [if_pos h]
  exact ⟨dFirm_loose ok n _, dHas_firm m n _, by rw [dBytes_firm ok, List.take_length]⟩
theorem appE_zero {m : DiskM} {n : List UInt8} (ok : DOk m) (hn : nameOk n = true) : dAppE m n [] = 0 := by
  unfold dAppE; rw [if_pos hn, if_neg]; have := ok.fits; simp; omega
theorem CI.append {R0 : Int} {n : List UInt8} {m : DiskM} {all es : List Ent} (c : CI R0 n m all) (h : jAppE m n es = 0) : CI R0 n (jAppM m n es) (all ++ es) := by
  unfold jAppE at h
  split at h
  · rename_i h0
    have e : jAppM m n es = dSyncM (dApp m n (flatE es)) n := by
      unfold jAppM; rw [if_pos h0]; unfold putM; rw [if_pos h, dAppM_eq h]
    have ok1 : DOk (dApp m n (flatE es)) := dApp_ok c.ok (dAppE_fit h)
    obtain ⟨x, y, z⟩ := dSync_loose ok1 n (dHas_app m n _)
    rw [e]
    refine ⟨dSyncM_ok ok1, by rw [dSyncM_room]; exact c.room, y, x, ?_, ?_⟩
    · rw [z, dBytes_app, c.bytes]; simp [flatE]
    · rw [firstErr_append, c.right]; simpa using h0
  · rename_i h0; exact absurd h h0
theorem jApp_fail {m : DiskM} {n : List UInt8} {es : List Ent} (hn : nameOk n = true) (h : jAppE m n es ≠ 0) : jAppM m n es = m ∧ (jAppE m n es = 2 ∨ jAppE m n es = 3 ∨ jAppE m n es = 8) := by
  unfold jAppE jAppM at *
  split
  · rename_i h0
    rw [if_pos h0] at h
    refine ⟨by unfold putM; rw [if_neg h], ?_⟩
    unfold dAppE at h ⊢
    rw [if_pos hn] at h ⊢
    split <;> simp_all
  · rename_i h0
    refine ⟨rfl, ?_⟩
    clear h
    induction es with
    | nil => exact absurd rfl h0
    | cons e es ih =>
      simp only [firstErr] at h0 ⊢
      split
      · rename_i h1; rw [if_pos h1] at h0; exact ih h0
      · rename_i h1; unfold putErr at h1 ⊢; split <;> simp_all
theorem CI.crash {R0 keep : Int} {n : List UInt8} {m : DiskM} {all : List Ent} {s' l' : SS} {c1' c2' : Nat} (c : CI R0 n m all) (h : CrashR m.safe m.loose s' l' c1' c2' keep) : CI R0 n ⟨s', c1', l', c2', m.room⟩ all := by
  have hs := c.has
  unfold dHas at hs
  obtain ⟨x, hx⟩ := Option.isSome_iff_exists.1 hs
  have hb := c.bytes
  unfold dBytes bytesT at hb
  rw [hx, c.loose] at hb
  refine ⟨⟨h.w1, h.w2, fun k hk => ?_, ?_, c.ok.small⟩, c.room, ?_, h.loose n, ?_, c.right⟩
  · simp only at hk; rw [h.loose k] at hk; cases hk
  · have := h.fits; have := c.ok.fits; simp only [DiskM.used] at *; omega
  · unfold dHas; simp only; rw [h.safe n, hx]; rfl
  · unfold dBytes bytesT; simp only; rw [h.safe n, h.loose n, hx, c.loose, ← hb]; simp [crashB, kk]
theorem openM_bytes {m : DiskM} {n : List UInt8} (ok : DOk m) (he : dAppE m n [] = 0) : DOk (openM m n) ∧ dHas (openM m n) n = true ∧ getT (openM m n).loose n = none ∧ dBytes (openM m n) n = (dBytes m n).take (openS m n).2.1 := by
  have ok1 : DOk (dApp m n []) := dApp_ok ok (dAppE_fit he)
  have e : dCutM (dApp m n []) n ((openS m n).2.1 : Int) = dFirm (dApp m n []) n (openS m n).2.1 := by
    unfold dCutM; rw [if_pos open_cut]; rfl
  have e2 : openM m n = dSyncM (dFirm (dApp m n []) n (openS m n).2.1) n := by unfold openM; rw [e]
  obtain ⟨x, y, z⟩ := dSync_loose (dFirm_ok (k := (openS m n).2.1) (name := n) ok1) n (dHas_firm _ _ _)
  rw [e2]
  exact ⟨dSyncM_ok (dFirm_ok ok1), y, x, by rw [z, dBytes_firm ok1, dBytes_app, List.append_nil]⟩
theorem scan_right {all : List Ent} (h : firstErr all = 0) : scanM (flatE all) = (all, (flatE all).length, false) := scanM_flat (firstErr_zero.1 h)
theorem CI.open {R0 : Int} {n : List UInt8} {m : DiskM} {all : List Ent} (c : CI R0 n m all) (hn : nameOk n = true) : dAppE m n [] = 0 ∧ openS m n = (all, (flatE all).length, false) ∧ CI R0 n (openM m n) all := by
  have he := appE_zero c.ok hn
  have hs : openS m n = (all, (flatE all).length, false) := by unfold openS; rw [c.bytes]; exact scan_right c.right
  obtain ⟨o1, o2, o3, o4⟩ := openM_bytes c.ok he
  exact ⟨he, hs, o1, by rw [openM_room]; exact c.room, o2, o3, by rw [o4, hs, c.bytes, List.take_length], c.right⟩
theorem CI.start {R0 : Int} {n : List UInt8} (h0 : 0 ≤ R0) (h1 : R0 ≤ 1000000000000) (hn : nameOk n = true) : dAppE ⟨[], 0, [], 0, R0⟩ n [] = 0 ∧ openS ⟨[], 0, [], 0, R0⟩ n = ([], 0, false) ∧ CI R0 n (openM ⟨[], 0, [], 0, R0⟩ n) [] := by
  have ok := ok0 R0 h0 h1
  have he := appE_zero ok hn
  have hs : openS ⟨[], 0, [], 0, R0⟩ n = ([], 0, false) := scanM_nil
  obtain ⟨o1, o2, o3, o4⟩ := openM_bytes ok he
  exact ⟨he, hs, o1, by rw [openM_room], o2, o3, by rw [o4, hs]; rfl, rfl⟩
/-- bytes of entries appended, not synced -/
structure PI (R0 : Int) (n : List UInt8) (m : DiskM) (fs ls : List Ent) : Prop where
  ok : DOk m
  room : m.room = R0
  safe : getT m.safe n = some (flatE fs)
  loose : (getT m.loose n).getD [] = flatE ls
  r1 : firstErr fs = 0
  r2 : firstErr ls = 0
theorem CI.part {R0 : Int} {n : List UInt8} {m : DiskM} {all : List Ent} (c : CI R0 n m all) : PI R0 n m all [] := by
  have hs := c.has
  unfold dHas at hs
  obtain ⟨x, hx⟩ := Option.isSome_iff_exists.1 hs
  have hb := c.bytes
  unfold dBytes bytesT at hb
  rw [hx, c.loose] at hb
  refine ⟨c.ok, c.room, ?_, by rw [c.loose]; rfl, c.right, rfl⟩
  rw [hx]; simpa using hb
theorem PI.append {R0 : Int} {n : List UInt8} {m : DiskM} {safe ls : List Ent} {e : Ent} (c : PI R0 n m safe ls) (hp : putErr e.1 e.2.1 = 0) (h : dAppE m n (putBytes e.1 e.2.1) = 0) : PI R0 n (dApp m n (putBytes e.1 e.2.1)) safe (ls ++ [e]) := by
  have hne : putBytes e.1 e.2.1 ≠ [] := fun h => by have := putBytes_length e.1 e.2.1; rw [h] at this; simp at this; omega
  refine ⟨dApp_ok c.ok (dAppE_fit h), c.room, ?_, ?_, c.r1, ?_⟩
  · unfold dApp; simp only; rw [getT_put, if_pos rfl, c.safe]; rfl
  · unfold dApp; simp only; rw [if_neg hne, getT_put, if_pos rfl, c.loose, flatE_snoc]; rfl
  · rw [firstErr_snoc, if_pos c.r2]; exact hp
theorem whole_append : ∀ (a b : List Ent) (t : Nat), whole (a ++ b) ((flatE a).length + t) = a.length + whole b t
  | [], b, t => by simp [flatE]
  | e :: a, b, t => by
    have ih := whole_append a b t
    rw [List.cons_append, flatE_cons, List.length_append, List.length_cons]
    simp only [whole]
    rw [if_pos (by omega), show (putBytes e.1 e.2.1).length + (flatE a).length + t - (putBytes e.1 e.2.1).length = (flatE a).length + t from by omega, ih]
    omega
theorem whole_min : ∀ (a : List Ent) (t : Nat), whole a (min t (flatE a).length) = whole a t
  | [], t => by simp [whole]
  | e :: a, t => by
    have ih := whole_min a (t - (putBytes e.1 e.2.1).length)
    rw [flatE_cons, List.length_append]
    simp only [whole]
    by_cases h : (putBytes e.1 e.2.1).length ≤ t
    · rw [if_pos h, if_pos (by omega), show min t ((putBytes e.1 e.2.1).length + (flatE a).length) - (putBytes e.1 e.2.1).length = min (t - (putBytes e.1 e.2.1).length) (flatE a).length from by omega, ih]
    · rw [if_neg h, if_neg (by omega)]
theorem whole_cons_yes {x : Ent} {a : List Ent} {t : Nat} (h : (putBytes x.1 x.2.1).length ≤ t) : whole (x :: a) t = whole a (t - (putBytes x.1 x.2.1).length) + 1 := by simp only [whole]; rw [if_pos h]
theorem whole_cons_no {x : Ent} {a : List Ent} {t : Nat} (h : ¬ (putBytes x.1 x.2.1).length ≤ t) : whole (x :: a) t = 0 := by simp only [whole]; rw [if_neg h]
theorem whole_snoc_yes : ∀ {a : List Ent} {e : Ent} {t : Nat}, whole a t = a.length → ((putBytes e.1 e.2.1).length : Int) ≤ (t : Int) - (flatE a).length → whole (a ++ [e]) t = a.length + 1
  | [], e, t, _, h => by
    have h0 : (flatE []).length = 0 := rfl
    rw [List.nil_append, whole_cons_yes (by omega)]; rfl
  | x :: a, e, t, h1, h2 => by
    rw [flatE_cons, List.length_append] at h2
    rw [List.length_cons] at h1
    by_cases h : (putBytes x.1 x.2.1).length ≤ t
    · rw [whole_cons_yes h] at h1
      rw [List.cons_append, whole_cons_yes h, whole_snoc_yes (by omega) (by omega)]; rfl
    · rw [whole_cons_no h] at h1; omega
theorem whole_snoc_no : ∀ {a : List Ent} {e : Ent} {t : Nat}, ¬ (whole a t = a.length ∧ ((putBytes e.1 e.2.1).length : Int) ≤ (t : Int) - (flatE a).length) → whole (a ++ [e]) t = whole a t
  | [], e, t, h => by
    have h0 : (flatE []).length = 0 := rfl
    rw [List.nil_append, whole_cons_no]; rfl
    intro hh
    exact h ⟨rfl, by omega⟩
  | x :: a, e, t, h1 => by
    rw [flatE_cons, List.length_append, List.length_cons] at h1
    by_cases h : (putBytes x.1 x.2.1).length ≤ t
    · rw [whole_cons_yes h] at h1
      rw [List.cons_append, whole_cons_yes h, whole_cons_yes h, whole_snoc_no (by omega)]
    · rw [List.cons_append, whole_cons_no h, whole_cons_no h]
theorem PI.crash {R0 keep : Int} {n : List UInt8} {m : DiskM} {safe ls : List Ent} {s' l' : SS} {c1' c2' : Nat} (c : PI R0 n m safe ls) (h : CrashR m.safe m.loose s' l' c1' c2' keep) (hn : nameOk n = true) :
    DOk ⟨s', c1', l', c2', m.room⟩ ∧ dAppE ⟨s', c1', l', c2', m.room⟩ n [] = 0 ∧ ∃ u, openS ⟨s', c1', l', c2', m.room⟩ n = (safe ++ ls.take (whole ls keep.toNat), u, false) := by
  have ok : DOk ⟨s', c1', l', c2', m.room⟩ := ⟨h.w1, h.w2, fun k hk => (by simp only at hk; rw [h.loose k] at hk; cases hk), by have := h.fits; have := c.ok.fits; simp only [DiskM.used] at *; omega, c.ok.small⟩
  have hb : dBytes ⟨s', c1', l', c2', m.room⟩ n = (flatE (safe ++ ls)).take ((flatE safe).length + min keep.toNat (flatE ls).length) := by
    unfold dBytes bytesT; simp only
    rw [h.safe n, h.loose n, c.safe, c.loose]
    simp [crashB, kk, flatE]
  have hr : ∀ e ∈ safe ++ ls, putErr e.1 e.2.1 = 0 := firstErr_zero.1 (by rw [firstErr_append, c.r1]; simpa using c.r2)
  have hl : (flatE (safe ++ ls)).length = (flatE safe).length + (flatE ls).length := by simp [flatE]
  have hw : whole (safe ++ ls) ((flatE safe).length + min keep.toNat (flatE ls).length) = safe.length + whole ls keep.toNat := by rw [whole_append, whole_min]
  refine ⟨ok, appE_zero ok hn, ?_⟩
  unfold openS
  rw [hb, scanM_torn _ (by omega) hr, hw]
  refine ⟨(flatE ((safe ++ ls).take (safe.length + whole ls keep.toNat))).length, ?_⟩
  have e : (safe ++ ls).take (safe.length + whole ls keep.toNat) = safe ++ ls.take (whole ls keep.toNat) := by rw [List.take_append, List.take_of_length_le (by omega)]; simp
  rw [e]

end Go.Proofs.YtcghiboamlaenaaDoor
