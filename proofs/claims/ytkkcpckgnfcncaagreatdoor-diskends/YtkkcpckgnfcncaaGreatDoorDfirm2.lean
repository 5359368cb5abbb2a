/- Texts of this proof, one behind the other. -/
import Derived.Test.YtkkcpckgnfcncaaGreatDoorDdoes
section
/- Texts of this proof, one behind the other. -/
section
open Go Go.Sp
set_option maxRecDepth 100000
attribute [local irreducible] obj Own OwnP
namespace Go.Proofs.YtkkcpckgnfcncaaGreatDoor

theorem sumT_zero {m : SS} (h : ∀ k, (getT m k).getD [] = []) (hn : (m.map (·.1)).Nodup) : sumT m = 0 := by
  have : ∀ x ∈ m, x.2.1 = [] := fun x hx => by have := h x.1; rw [getT_mem hn hx] at this; exact this
  induction m with
  | nil => rfl
  | cons x m ih =>
    have h1 := this x (by simp)
    have h2 : ∀ y ∈ m, y.2.1 = [] := fun y hy => this y (by simp [hy])
    have h3 : ∀ {l : SS}, (∀ y ∈ l, y.2.1 = []) → sumT l = 0 := by
      intro l
      induction l with
      | nil => intro _; rfl
      | cons z l ih => intro hz; have := ih fun y hy => hz y (by simp [hy]); have := hz z (by simp); simp [sumT] at *; simp_all
    exact h3 this
theorem sumT_getD : ∀ (n : Nat) {m m' : SS} {c c' : Nat}, m.length = n → WfT m c → WfT m' c' → (∀ k, (getT m k).getD [] = (getT m' k).getD []) → sumT m = sumT m'
  | 0, m, m', c, c', hn, h, h', he => by
    have : m = [] := List.length_eq_zero_iff.1 hn
    subst this
    rw [sumT_zero (m := m') (fun k => (he k).symm) h'.2.2]; rfl
  | n + 1, m, m', c, c', hn, h, h', he => by
    cases m with
    | nil => simp at hn
    | cons x l =>
      have d1 : delT (x :: l) x.1 = l := by simp [delT]
      have e1 := sumT_del (x :: l) x.1
      have e2 := sumT_del m' x.1
      rw [he x.1] at e1
      have ih := sumT_getD n (m := delT (x :: l) x.1) (m' := delT m' x.1) (by rw [d1]; simpa using hn) (delT_wf h _) (delT_wf h' _) fun k => by
        rw [getT_del h.2.2, getT_del h'.2.2]
        split
        · rfl
        · exact he k
      omega
theorem safe_eq {m m' : DiskM} {k : List UInt8} (h : vOf m k = vOf m' k) : getT m.safe k = getT m'.safe k := by
  unfold vOf at h
  cases h1 : getT m.safe k <;> cases h2 : getT m'.safe k <;> rw [h1, h2] at h <;> simp_all
theorem loose_eq {m m' : DiskM} (ok : DOk m) (ok' : DOk m') {k : List UInt8} (h : vOf m k = vOf m' k) : (getT m.loose k).getD [] = (getT m'.loose k).getD [] := by
  cases h1 : vOf m k with
  | none => rw [vOf_loose ok h1, vOf_loose ok' (h ▸ h1)]
  | some x =>
    have h2 := h ▸ h1
    unfold vOf at h1 h2
    obtain ⟨s, _, e1⟩ := Option.map_eq_some_iff.1 h1
    obtain ⟨s', _, e2⟩ := Option.map_eq_some_iff.1 h2
    have := e1.trans e2.symm
    simp only [Prod.mk.injEq] at this
    exact this.2
theorem view_used {m m' : DiskM} (ok : DOk m) (ok' : DOk m') (h : ∀ k, vOf m k = vOf m' k) : m.used = m'.used := by
  unfold DiskM.used
  rw [sumT_congr ok.w1 ok'.w1 fun k => safe_eq (h k), sumT_getD _ rfl ok.w2 ok'.w2 fun k => loose_eq ok ok' (h k)]
theorem view_names {m m' : DiskM} (ok : DOk m) (ok' : DOk m') (h : ∀ k, vOf m k = vOf m' k) : namesT m.safe = namesT m'.safe := names_eq ok.w1 ok'.w1 fun k => by rw [safe_eq (h k)]
theorem view_read {m m' : DiskM} (ok : DOk m) (ok' : DOk m') {k : List UInt8} (h : vOf m k = vOf m' k) : dRead m k = dRead m' k ∧ dSyncE m k = dSyncE m' k := by
  unfold dRead dSyncE
  rw [vOf_has, vOf_has, vOf_bytes ok, vOf_bytes ok', h]
  exact ⟨rfl, rfl⟩
theorem DI.crash {R0 : Int} {N : Nat} {m : DiskM} {s' l' : SS} {c1' c2' : Nat} {keep : Int} (c : DI R0 N m) (h : CrashR m.safe m.loose s' l' c1' c2' keep) : DI R0 N ⟨s', c1', l', c2', m.room⟩ :=
  ⟨crash_ok c.ok h, c.room, by have := crash_len c.ok h; have := c.len; show s'.length ≤ N; omega, crash_q c.ok h c.q⟩
theorem read_len {m : DiskM} (ok : DOk m) (k : List UInt8) : (dRead m k).length ≤ 2000000000000 := by
  have h1 := getT_le m.safe k
  have h2 := getT_le m.loose k
  have := ok.le
  unfold dRead
  split
  · unfold dBytes bytesT; rw [List.length_append]; omega
  · simp
end Go.Proofs.YtkkcpckgnfcncaaGreatDoor
end
section
open Go Go.Sp
set_option maxRecDepth 100000
attribute [local irreducible] obj Own OwnP
namespace Go.Proofs.YtkkcpckgnfcncaaGreatDoor

/-- four of them -/
def arr4 (f : Nat → Value) : List Value := [f 0, f 1, f 2, f 3]
@[simp] theorem arr4_length (f : Nat → Value) : (arr4 f).length = 4 := rfl
theorem lt4 {k : Nat} (h : k < 4) : k = 0 ∨ k = 1 ∨ k = 2 ∨ k = 3 := by omega
theorem arr4_get (f : Nat → Value) {k : Nat} (h : k < 4) : (arr4 f)[k]? = some (f k) := by rcases lt4 h with rfl | rfl | rfl | rfl <;> rfl
theorem arr4_set (f : Nat → Value) {k : Nat} (v : Value) (h : k < 4) : (arr4 f).set k v = arr4 fun j => if j = k then v else f j := by rcases lt4 h with rfl | rfl | rfl | rfl <;> rfl
theorem arr4_congr {f g : Nat → Value} (h : ∀ k, k < 4 → f k = g k) : arr4 f = arr4 g := by
  unfold arr4; rw [h 0 (by decide), h 1 (by decide), h 2 (by decide), h 3 (by decide)]
/-- the how many-th of four names -/
def lk (k : Nat) : List UInt8 := [UInt8.ofNat (97 + k)]
theorem lk_inj {j k : Nat} (hj : j < 4) (hk : k < 4) (h : lk j = lk k) : j = k := by
  rcases lt4 hj with rfl | rfl | rfl | rfl <;> rcases lt4 hk with rfl | rfl | rfl | rfl <;> first | rfl | exact absurd h (by decide)
theorem lk_ok {k : Nat} (h : k < 4) : nameOk (lk k) = true := by rcases lt4 h with rfl | rfl | rfl | rfl <;> decide
theorem lk_byte {p : Int} (h0 : 0 ≤ p) (h4 : p < 4) : Value.int .u8 (IntKind.u8.wrap (97 + p)) = byteV (UInt8.ofNat (97 + p.toNat)) := by
  obtain ⟨k, rfl⟩ : ∃ k : Nat, p = k := ⟨p.toNat, by omega⟩
  rcases lt4 (k := k) (by omega) with rfl | rfl | rfl | rfl <;> rfl
end Go.Proofs.YtkkcpckgnfcncaaGreatDoor
end
end
section
open Go Go.Sp
set_option maxRecDepth 100000
attribute [local irreducible] obj Own OwnP
namespace Go.Proofs.YtkkcpckgnfcncaaGreatDoor

theorem has_safe {m : DiskM} {k : List UInt8} (h : ¬ dHas m k = true) : getT m.safe k = none := by
  unfold dHas at h
  cases hg : getT m.safe k with
  | none => rfl
  | some x => rw [hg] at h; exact absurd rfl h
theorem has_loose {m : DiskM} (ok : DOk m) {k : List UInt8} (h : ¬ dHas m k = true) : getT m.loose k = none := by
  cases hg : getT m.loose k with
  | none => rfl
  | some x => have := ok.sub k (by rw [hg]; rfl); rw [has_safe h] at this; cases this
theorem has_bytes {m : DiskM} (ok : DOk m) {k : List UInt8} (h : ¬ dHas m k = true) : dBytes m k = [] := by
  unfold dBytes bytesT; rw [has_safe h, has_loose ok h]; rfl
theorem syncM_safe {m : DiskM} (ok : DOk m) (n k : List UInt8) : (getT (dSyncM m n).safe k).getD [] = if k = n then dBytes m n else (getT m.safe k).getD [] := by
  unfold dSyncM
  split
  · unfold dFirm; simp only; rw [getT_put]
    split
    · rw [Option.getD_some]; exact List.take_length ..
    · rfl
  · rename_i h
    split
    · rename_i e; rw [e, has_safe h, has_bytes ok h]; rfl
    · rfl
theorem syncM_has {m : DiskM} (n k : List UInt8) : dHas (dSyncM m n) k = dHas m k := by
  unfold dSyncM
  split
  · rename_i h
    unfold dFirm dHas; simp only; rw [getT_put]
    split
    · rename_i e; rw [e]; exact h.symm
    · rfl
  · rfl
theorem syncM_bytes {m : DiskM} (ok : DOk m) (n k : List UInt8) : dBytes (dSyncM m n) k = dBytes m k := by
  unfold dSyncM
  split
  · have h1 := syncM_safe ok n k
    unfold dSyncM at h1
    rw [if_pos (by assumption)] at h1
    show (getT (dFirm m n (dBytes m n).length).safe k).getD [] ++ (getT (delT m.loose n) k).getD [] = _
    rw [h1, getT_del ok.w2.2.2]
    split
    · rename_i e; rw [e]; simp
    · rfl
  · rfl
theorem appM_safe {m : DiskM} {n b : List UInt8} (h : dAppE m n b = 0) (k : List UInt8) : (getT (dAppM m n b).safe k).getD [] = (getT m.safe k).getD [] := by
  unfold dAppM; rw [if_pos h]
  unfold dApp; simp only; rw [getT_put]
  split
  · rename_i e; rw [e]; rfl
  · rfl
theorem appM_has {m : DiskM} {n b : List UInt8} (h : dAppE m n b = 0) (k : List UInt8) : dHas (dAppM m n b) k = if k = n then true else dHas m k := by
  unfold dAppM; rw [if_pos h]
  unfold dApp dHas; simp only; rw [getT_put]
  split <;> rfl
theorem appM_bytes {m : DiskM} {n b : List UInt8} (h : dAppE m n b = 0) (k : List UInt8) : dBytes (dAppM m n b) k = if k = n then dBytes m n ++ b else dBytes m k := by
  have h1 := appM_safe h k
  unfold dBytes bytesT
  rw [h1]
  unfold dAppM; rw [if_pos h]
  unfold dApp; simp only
  by_cases e : k = n
  · subst e
    rw [if_pos rfl]
    split
    · rename_i hb; subst hb; simp
    · rw [getT_put, if_pos rfl, Option.getD_some, List.append_assoc]
  · rw [if_neg e]
    split
    · rfl
    · rw [getT_put, if_neg e]
theorem crash_safe {m : DiskM} {s' l' : SS} {c1' c2' : Nat} {keep : Int} (ok : DOk m) (h : CrashR m.safe m.loose s' l' c1' c2' keep) (k : List UInt8) : (getT s' k).getD [] = (dBytes m k).take (((getT m.safe k).getD []).length + kk keep ((dBytes m k).length - ((getT m.safe k).getD []).length)) := by
  rw [h.safe]
  unfold dBytes bytesT
  cases hg : getT m.safe k with
  | none =>
    rw [has_loose ok (by unfold dHas; rw [hg]; exact fun h => by cases h)]; simp
  | some x =>
    simp only [Option.map_some, Option.getD_some, List.length_append]
    unfold crashB
    rw [Nat.add_sub_cancel_left]
theorem crash_has {m : DiskM} {s' l' : SS} {c1' c2' : Nat} {keep : Int} (h : CrashR m.safe m.loose s' l' c1' c2' keep) (k : List UInt8) : dHas ⟨s', c1', l', c2', m.room⟩ k = dHas m k := by
  unfold dHas; simp only; rw [h.safe]; cases getT m.safe k <;> rfl
theorem crash_bytes {m : DiskM} {s' l' : SS} {c1' c2' : Nat} {keep : Int} (h : CrashR m.safe m.loose s' l' c1' c2' keep) (k : List UInt8) : dBytes ⟨s', c1', l', c2', m.room⟩ k = (getT s' k).getD [] := by
  unfold dBytes bytesT; simp only; rw [h.loose]; exact List.append_nil _
theorem safe_le (m : DiskM) (k : List UInt8) : ((getT m.safe k).getD []).length ≤ (dBytes m k).length := by
  unfold dBytes bytesT; rw [List.length_append]; omega
theorem read_bytes {m : DiskM} (ok : DOk m) (k : List UInt8) : dRead m k = dBytes m k := by
  unfold dRead; split
  · rfl
  · rename_i h; exact (has_bytes ok h).symm
/-- the disk of the count by hand: files of the four names alone -/
structure FI (N : Nat) (m : DiskM) : Prop where
  di : DI 1048576 N m
  us : m.used ≤ 300 * N
  nm : ∀ n, (∀ k, k < 4 → n ≠ lk k) → dHas m n = false
theorem FI.four {N : Nat} {m : DiskM} (f : FI N m) : m.used = (dBytes m (lk 0)).length + (dBytes m (lk 1)).length + (dBytes m (lk 2)).length + (dBytes m (lk 3)).length := by
  have go : ∀ (s : SS) (c : Nat), WfT s c → (∀ n, (∀ k, k < 4 → n ≠ lk k) → getT s n = none) → sumT s = ((getT s (lk 0)).getD []).length + ((getT s (lk 1)).getD []).length + ((getT s (lk 2)).getD []).length + ((getT s (lk 3)).getD []).length := fun s c w hn => by
    have w0 := delT_wf w (lk 0)
    have w1 := delT_wf w0 (lk 1)
    have w2 := delT_wf w1 (lk 2)
    have w3 := delT_wf w2 (lk 3)
    have e0 := sumT_del s (lk 0)
    have e1 := sumT_del (delT s (lk 0)) (lk 1)
    have e2 := sumT_del (delT (delT s (lk 0)) (lk 1)) (lk 2)
    have e3 := sumT_del (delT (delT (delT s (lk 0)) (lk 1)) (lk 2)) (lk 3)
    have z := sumT_zero (m := delT (delT (delT (delT s (lk 0)) (lk 1)) (lk 2)) (lk 3)) (fun k => by
      rw [getT_del w2.2.2, getT_del w1.2.2, getT_del w0.2.2, getT_del w.2.2]
      by_cases h3 : k = lk 3
      · rw [if_pos h3]; rfl
      · by_cases h2 : k = lk 2
        · rw [if_neg h3, if_pos h2]; rfl
        · by_cases h1 : k = lk 1
          · rw [if_neg h3, if_neg h2, if_pos h1]; rfl
          · by_cases h0 : k = lk 0
            · rw [if_neg h3, if_neg h2, if_neg h1, if_pos h0]; rfl
            · rw [if_neg h3, if_neg h2, if_neg h1, if_neg h0, hn k fun j hj => by rcases lt4 hj with rfl | rfl | rfl | rfl <;> assumption]; rfl) w3.2.2
    rw [getT_del w.2.2, if_neg (show ¬ lk 1 = lk 0 by decide)] at e1
    rw [getT_del w0.2.2, if_neg (show ¬ lk 2 = lk 1 by decide), getT_del w.2.2, if_neg (show ¬ lk 2 = lk 0 by decide)] at e2
    rw [getT_del w1.2.2, if_neg (show ¬ lk 3 = lk 2 by decide), getT_del w0.2.2, if_neg (show ¬ lk 3 = lk 1 by decide), getT_del w.2.2, if_neg (show ¬ lk 3 = lk 0 by decide)] at e3
    omega
  have g1 := go m.safe m.c1 f.di.ok.w1 fun n h => has_safe (by rw [f.nm n h]; decide)
  have g2 := go m.loose m.c2 f.di.ok.w2 fun n h => has_loose f.di.ok (by rw [f.nm n h]; decide)
  unfold DiskM.used dBytes bytesT
  rw [List.length_append, List.length_append, List.length_append, List.length_append]
  omega
theorem pk2 : pick 2 7 = 2 := by decide
theorem pk66 : pick 6 7 = 6 := by decide
theorem pk6 (n : Int) (h : 6 ≠ n) : ¬ pick 6 7 = n := by rw [pk66]; exact h
theorem pk0 (n : Int) (h : 0 ≠ n) : ¬ pick 0 7 = n := by rw [show pick 0 7 = 0 from by decide]; exact h
theorem FI.sync {N : Nat} {m : DiskM} (f : FI N m) (k : Nat) (hk : k < 4) : FI (N + 1) (dSyncM m (lk k)) := by
  obtain ⟨h1, h2⟩ := DStep.di f.di (x := (2, 0, lk k, [], [], ())) (e := dSyncE m (lk k)) (m' := dSyncM m (lk k)) (by unfold DStep; rw [if_pos pk2]; exact ⟨rfl, rfl⟩) (by have h1 := f.di.ok.fits; rw [f.di.room] at h1; show m.used + 0 ≤ _; omega)
  refine ⟨h1, by have := f.us; simp at h2; omega, fun n hn => by rw [syncM_has]; exact f.nm n hn⟩
theorem FI.crash {N : Nat} {m : DiskM} {s' l' : SS} {c1' c2' : Nat} {keep : Int} (f : FI N m) (h : CrashR m.safe m.loose s' l' c1' c2' keep) : FI (N + 1) ⟨s', c1', l', c2', m.room⟩ := by
  obtain ⟨h1, h2⟩ := DStep.di f.di (x := (6, keep, [], [], [], ())) (e := 0) (m' := ⟨s', c1', l', c2', m.room⟩) (by unfold DStep; rw [if_neg (pk6 2 (by decide)), if_neg (pk6 3 (by decide)), if_neg (pk6 4 (by decide)), if_neg (pk6 5 (by decide)), if_pos pk66]; exact ⟨rfl, s', c1', l', c2', h, rfl⟩) (by have h1 := f.di.ok.fits; rw [f.di.room] at h1; show m.used + 0 ≤ _; omega)
  refine ⟨h1, by have := f.us; simp at h2; omega, fun n hn => by rw [crash_has h]; exact f.nm n hn⟩
theorem FI.appE {N : Nat} {m : DiskM} (f : FI N m) (hN : N ≤ 80) {k : Nat} (hk : k < 4) {b : List UInt8} (hb : b.length ≤ 300) : dAppE m (lk k) b = 0 := by
  unfold dAppE
  rw [if_pos (lk_ok hk), if_neg (by have := f.us; rw [f.di.room]; omega)]
theorem FI.app {N : Nat} {m : DiskM} (f : FI N m) (hN : N ≤ 80) {k : Nat} (hk : k < 4) {b : List UInt8} (hb : b.length ≤ 300) : FI (N + 1) (dAppM m (lk k) b) := by
  obtain ⟨h1, h2⟩ := DStep.di f.di (x := (0, 0, lk k, [], b, ())) (e := dAppE m (lk k) b) (m' := dAppM m (lk k) b) (by unfold DStep; rw [if_neg (pk0 2 (by decide)), if_neg (pk0 3 (by decide)), if_neg (pk0 4 (by decide)), if_neg (pk0 5 (by decide)), if_neg (pk0 6 (by decide))]; exact ⟨rfl, rfl⟩) (by have h1 := f.di.ok.fits; rw [f.di.room] at h1; show m.used + b.length ≤ _; omega)
  refine ⟨h1, by have := f.us; simp only at h2; omega, fun n hn => by rw [appM_has (f.appE hN hk hb), if_neg (hn k hk)]; exact f.nm n hn⟩
/-- what the three arrays hold -/
def fB (m : DiskM) (k : Nat) : Value := .string (str (dBytes m (lk k)))
def fS (m : DiskM) (k : Nat) : Value := .int .i64 (((getT m.safe (lk k)).getD []).length : Int)
def fI (m : DiskM) (k : Nat) : Value := .bool (dHas m (lk k))
theorem sync_B {m : DiskM} (ok : DOk m) (n : Nat) : arr4 (fB (dSyncM m (lk n))) = arr4 (fB m) := arr4_congr fun k _ => by unfold fB; rw [syncM_bytes ok]
theorem sync_I (m : DiskM) (n : Nat) : arr4 (fI (dSyncM m (lk n))) = arr4 (fI m) := arr4_congr fun k _ => by unfold fI; rw [syncM_has]
theorem sync_S {m : DiskM} (ok : DOk m) {n : Nat} (hn : n < 4) : (arr4 (fS m)).set n (.int .i64 ((dBytes m (lk n)).length : Int)) = arr4 (fS (dSyncM m (lk n))) := by
  rw [arr4_set _ _ hn]
  refine arr4_congr fun k hk => ?_
  unfold fS; rw [syncM_safe ok]
  by_cases e : k = n
  · subst e; rw [if_pos rfl, if_pos rfl]
  · rw [if_neg e, if_neg fun h => e (lk_inj hk hn h)]
theorem app_S {m : DiskM} {n : Nat} {b : List UInt8} (h : dAppE m (lk n) b = 0) : arr4 (fS (dAppM m (lk n) b)) = arr4 (fS m) := arr4_congr fun k _ => by unfold fS; rw [appM_safe h]
theorem app_I {m : DiskM} {n : Nat} {b : List UInt8} (hn : n < 4) (h : dAppE m (lk n) b = 0) : (arr4 (fI m)).set n (.bool true) = arr4 (fI (dAppM m (lk n) b)) := by
  rw [arr4_set _ _ hn]
  refine arr4_congr fun k hk => ?_
  unfold fI; rw [appM_has h]
  by_cases e : k = n
  · subst e; rw [if_pos rfl, if_pos rfl]
  · rw [if_neg e, if_neg fun h => e (lk_inj hk hn h)]
theorem app_B {m : DiskM} {n : Nat} {b : List UInt8} (hn : n < 4) (h : dAppE m (lk n) b = 0) : (arr4 (fB m)).set n (.string (str (dBytes m (lk n) ++ b))) = arr4 (fB (dAppM m (lk n) b)) := by
  rw [arr4_set _ _ hn]
  refine arr4_congr fun k hk => ?_
  unfold fB; rw [appM_bytes h]
  by_cases e : k = n
  · subst e; rw [if_pos rfl, if_pos rfl]
  · rw [if_neg e, if_neg fun h => e (lk_inj hk hn h)]
/-- half way through a loop over the four -/
def mid (i : Nat) (f g : Nat → Value) (k : Nat) : Value := if k < i then g k else f k
theorem mid_zero (f g : Nat → Value) : arr4 (mid 0 f g) = arr4 f := arr4_congr fun k _ => by unfold mid; rw [if_neg (Nat.not_lt_zero k)]
theorem mid_four (f g : Nat → Value) : arr4 (mid 4 f g) = arr4 g := arr4_congr fun k hk => by unfold mid; rw [if_pos hk]
theorem mid_set (f g : Nat → Value) {i : Nat} (hi : i < 4) : (arr4 (mid i f g)).set i (g i) = arr4 (mid (i + 1) f g) := by
  rw [arr4_set _ _ hi]
  refine arr4_congr fun k hk => ?_
  unfold mid
  by_cases e : k = i
  · subst e; rw [if_pos rfl, if_pos (by omega)]
  · rw [if_neg e]
    by_cases h : k < i
    · rw [if_pos h, if_pos (by omega)]
    · rw [if_neg h, if_neg (by omega)]
theorem mid_at (f g : Nat → Value) (i : Nat) : mid i f g i = f i := by unfold mid; rw [if_neg (Nat.lt_irrefl i)]
theorem mid_get0 (f g : Nat → Value) {k : Nat} (h : k < 4) : (arr4 (mid k f g))[k]? = some (f k) := by rw [arr4_get _ h]; unfold mid; rw [if_neg (Nat.lt_irrefl k)]
theorem mid_get1 (f g : Nat → Value) {k : Nat} (h : k < 4) : (arr4 (mid (k + 1) f g))[k]? = some (g k) := by rw [arr4_get _ h]; unfold mid; rw [if_pos (Nat.lt_succ_self k)]
theorem take_take_len {α : Type} (l : List α) (x : Nat) : l.take (l.take x).length = l.take x := by
  rw [List.length_take]
  by_cases h : x ≤ l.length
  · rw [Nat.min_eq_left h]
  · rw [Nat.min_eq_right (by omega), List.take_length, List.take_of_length_le (by omega)]
theorem crash_step {N : Int} {s b s2 b2 : List UInt8} (hle : s.length ≤ b.length) (eS : s2 = b.take (s.length + kk N (b.length - s.length))) (eB : b2 = s2) : ((s2.length : Nat) : Int) = (s.length : Int) + min (max N 0) ((b.length : Int) - s.length) ∧ b.take s2.length = b2 := by
  subst eB; subst eS
  refine ⟨?_, take_take_len _ _⟩
  rw [List.length_take]; unfold kk; omega
theorem pick4 (z : Int) : ∃ n : Nat, pick z 4 = (n : Int) ∧ n < 4 := by
  have hp : 0 ≤ pick z 4 ∧ pick z 4 < 4 := by
    unfold pick
    rw [if_neg (by omega)]
    have h1 := Int.tmod_lt_of_pos z (show (0 : Int) < 4 by decide)
    have h2 := Int.lt_tmod_of_pos z (show (0 : Int) < 4 by decide)
    split <;> omega
  exact ⟨(pick z 4).toNat, by omega, by omega⟩
theorem pick4_id {k : Nat} (h : k < 4) : pick (k : Int) 4 = k := by rcases lt4 h with rfl | rfl | rfl | rfl <;> rfl
/-- how many bytes so many of the four have -/
def fU (m : DiskM) : Nat → Nat
  | 0 => 0
  | k + 1 => fU m k + (dBytes m (lk k)).length
theorem FI.uu {N : Nat} {m : DiskM} (f : FI N m) : fU m 4 = m.used := by
  rw [f.four]; simp only [fU]; omega
theorem fU_le {N : Nat} {m : DiskM} (f : FI N m) {k : Nat} (h : k ≤ 4) : fU m k ≤ 300 * N := by
  have h4 := f.uu
  have hu := f.us
  have : fU m k ≤ fU m 4 := by
    rcases (by omega : k = 0 ∨ k = 1 ∨ k = 2 ∨ k = 3 ∨ k = 4) with rfl | rfl | rfl | rfl | rfl <;> simp only [fU] <;> omega
  omega
theorem FI.zero : FI 0 ⟨[], 0, [], 0, 1048576⟩ := ⟨⟨ok0 1048576 (by decide) (by decide), rfl, Nat.le_refl _, by simp⟩, Nat.le_refl _, fun _ _ => rfl⟩
theorem syncE_has (m : DiskM) (n : List UInt8) : decide (dSyncE m n = 0) = dHas m n := by unfold dSyncE; cases dHas m n <;> rfl
theorem arr4_get0 (f : Nat → Value) {k : Nat} (h : k < 4) : (arr4 f)[0 + k]? = some (f k) := by rw [Nat.zero_add]; exact arr4_get f h

end Go.Proofs.YtkkcpckgnfcncaaGreatDoor
end
