import Derived.Test.YtkkcpckgnfcncaaDoorDview
open Go Go.Sp
set_option maxRecDepth 100000
attribute [local irreducible] obj Own OwnP
namespace Go.Proofs.YtkkcpckgnfcncaaDoor

/-- a deed of one's own names; no crash -/
def mineD (c : UInt8) (x : DeedT) : DeedT := (if pick x.1 7 = 6 then 2 else x.1, x.2.1, c :: lk (pick (x.2.2.1.length : Int) 4).toNat, c :: lk (pick ((x.2.2.2.1.length : Int) + x.2.1.tmod 4) 4).toNat, x.2.2.2.2.1, ())
theorem mineD_6 (c : UInt8) (x : DeedT) : pick (mineD c x).1 7 ≠ 6 := by
  unfold mineD; simp only; split
  · decide
  · assumption
def agree (c : UInt8) (v w : View) : Prop := ∀ k, k.head? = some c → v k = w k
theorem vUpd_agree {c : UInt8} {v w : View} (h : agree c v w) (n : List UInt8) (f : Option (List UInt8 × List UInt8)) : agree c (vUpd v n f) (vUpd w n f) := fun k hk => by unfold vUpd; rw [h k hk]
theorem vUpd_not {c : UInt8} {v : View} {n : List UInt8} (hn : n.head? = some c) {f : Option (List UInt8 × List UInt8)} {k : List UInt8} (hk : k.head? ≠ some c) : vUpd v n f k = v k := by
  unfold vUpd; rw [if_neg fun e => hk (by rw [e]; exact hn)]
/-- what is done to one's own names hangs on them alone -/
theorem vDeed_own {c : UInt8} {v w : View} {x : DeedT} (h : agree c v w) (h6 : pick x.1 7 ≠ 6) (hn : x.2.2.1.head? = some c) : (vDeed v true x).1 = (vDeed w true x).1 ∧ agree c (vDeed v true x).2 (vDeed w true x).2 := by
  unfold vDeed
  rw [h _ hn]
  split
  · split
    · exact ⟨rfl, h⟩
    · exact ⟨rfl, vUpd_agree h _ _⟩
  · split
    · split
      · exact ⟨rfl, h⟩
      · split
        · exact ⟨rfl, h⟩
        · exact ⟨rfl, vUpd_agree h _ _⟩
    · split
      · split
        · split
          · exact ⟨rfl, h⟩
          · exact ⟨rfl, vUpd_agree (vUpd_agree h _ _) _ _⟩
        · exact ⟨rfl, h⟩
      · split
        · split
          · exact ⟨rfl, h⟩
          · exact ⟨rfl, vUpd_agree h _ _⟩
        · try rw [if_neg h6]
          split
          · exact ⟨rfl, vUpd_agree h _ _⟩
          · exact ⟨rfl, h⟩
/-- .. and leaves others be -/
theorem vDeed_not {c : UInt8} {v : View} {x : DeedT} (h6 : pick x.1 7 ≠ 6) (hn : x.2.2.1.head? = some c) (ht : x.2.2.2.1.head? = some c) {k : List UInt8} (hk : k.head? ≠ some c) : (vDeed v true x).2 k = v k := by
  unfold vDeed
  split
  · split
    · rfl
    · exact vUpd_not hn hk
  · split
    · split
      · rfl
      · split
        · rfl
        · exact vUpd_not hn hk
    · split
      · split
        · split
          · rfl
          · exact (vUpd_not ht hk).trans (vUpd_not hn hk)
        · rfl
      · split
        · split
          · rfl
          · exact vUpd_not hn hk
        · try rw [if_neg h6]
          split
          · exact vUpd_not hn hk
          · rfl
/-- a row of deeds, on nothing -/
def runV (l : List DeedT) : List Int × View := l.foldl (fun p x => (p.1 ++ [(vDeed p.2 true x).1], (vDeed p.2 true x).2)) ([], fun _ => none)
theorem runV_snoc (l : List DeedT) (x : DeedT) : runV (l ++ [x]) = ((runV l).1 ++ [(vDeed (runV l).2 true x).1], (vDeed (runV l).2 true x).2) := by simp [runV]
theorem vDeed_in (v : View) (b : Bool) (x : DeedT) : 0 ≤ (vDeed v b x).1 ∧ (vDeed v b x).1 ≤ 8 := by
  unfold vDeed
  repeat' split
  all_goals exact ⟨by simp, by simp⟩
theorem snoc_ind {α : Type} {p : List α → Prop} (l : List α) (h0 : p []) (h1 : ∀ l x, p l → p (l ++ [x])) : p l := by
  have h : ∀ l, p (List.reverse l) := fun l => by
    induction l with
    | nil => exact h0
    | cons x l ih => rw [List.reverse_cons]; exact h1 _ _ ih
  rw [← List.reverse_reverse l]; exact h _
theorem runV_in (l : List DeedT) : ∀ e ∈ (runV l).1, 0 ≤ e ∧ e ≤ 8 := by
  refine snoc_ind (p := fun l => ∀ e ∈ (runV l).1, 0 ≤ e ∧ e ≤ 8) l (fun e he => by cases he) fun l x ih => ?_
  · intro e he
    rw [runV_snoc] at he
    rcases List.mem_append.1 he with h | h
    · exact ih e h
    · rw [List.mem_singleton.1 h]; exact vDeed_in ..
theorem runV_len (l : List DeedT) : (runV l).1.length = l.length :=
  snoc_ind (p := fun l => (runV l).1.length = l.length) l rfl fun l x ih => by rw [runV_snoc]; simp [ih]
abbrev tx (c : UInt8) (l : List DeedT) (p : Nat) : List Int := (runV ((l.take p).map (mineD c))).1
abbrev rx (c : UInt8) (l : List DeedT) (p : Nat) : View := (runV ((l.take p).map (mineD c))).2
theorem tx_succ (c : UInt8) {l : List DeedT} {p : Nat} (hp : p < l.length) : tx c l (p + 1) = tx c l p ++ [(vDeed (rx c l p) true (mineD c l[p])).1] ∧ rx c l (p + 1) = (vDeed (rx c l p) true (mineD c l[p])).2 := by
  unfold tx rx
  rw [List.take_succ_eq_append_getElem hp, List.map_append, List.map_singleton, runV_snoc]
  exact ⟨rfl, rfl⟩
theorem tx_len (c : UInt8) (l : List DeedT) {p : Nat} (hp : p ≤ l.length) : (tx c l p).length = p := by unfold tx; rw [runV_len]; simp; omega
/-- so many of either row are done -/
structure ApI (l m : List DeedT) (p q : Nat) (d : DiskM) : Prop where
  di : DI 1048576 (p + q) d
  us : d.used ≤ 300 * (p + q)
  ax : agree 120 (vOf d) (rx 120 l p)
  ay : agree 121 (vOf d) (rx 121 m q)
  no : ∀ k, k.head? ≠ some 120 → k.head? ≠ some 121 → vOf d k = none
theorem ApI.x {l m : List DeedT} {p q : Nat} {d d' : DiskM} {e : Int} (a : ApI l m p q d) (hp : p < l.length) (hpq : p + q ≤ 160) (hb : l[p].2.2.2.2.1.length ≤ 300) (h : DStep d (mineD 120 l[p]) e d') : ApI l m (p + 1) q d' ∧ tx 120 l (p + 1) = tx 120 l p ++ [e] := by
  have hv := h.view a.di.ok
  have hf : decide (¬ d.room < (d.used : Int) + (mineD 120 l[p]).2.2.2.2.1.length) = true := by
    have := a.us; have := a.di.room
    have hb' : (mineD 120 l[p]).2.2.2.2.1.length ≤ 300 := hb
    exact decide_eq_true (by omega)
  rw [hf] at hv
  have hv1 : e = _ := congrArg Prod.fst hv
  have hv2 : vOf d' = _ := congrArg Prod.snd hv
  obtain ⟨h1, h2⟩ := DStep.di a.di h
  obtain ⟨t1, t2⟩ := tx_succ 120 hp
  obtain ⟨o1, o2⟩ := vDeed_own (x := mineD 120 l[p]) a.ax (mineD_6 _ _) rfl
  have hb' : (mineD 120 l[p]).2.2.2.2.1.length ≤ 300 := hb
  refine ⟨⟨by rw [show p + 1 + q = p + q + 1 from by omega]; exact h1, by have := a.us; omega, ?_, fun k hk => ?_, fun k hk hk' => ?_⟩, ?_⟩
  · rw [hv2, t2]; exact o2
  · rw [hv2, vDeed_not (c := 120) (mineD_6 _ _) rfl rfl (by rw [hk]; decide)]; exact a.ay k hk
  · rw [hv2, vDeed_not (c := 120) (mineD_6 _ _) rfl rfl hk]; exact a.no k hk hk'
  · rw [t1, hv1, o1]
theorem ApI.y {l m : List DeedT} {p q : Nat} {d d' : DiskM} {e : Int} (a : ApI l m p q d) (hp : q < m.length) (hpq : p + q ≤ 160) (hb : m[q].2.2.2.2.1.length ≤ 300) (h : DStep d (mineD 121 m[q]) e d') : ApI l m p (q + 1) d' ∧ tx 121 m (q + 1) = tx 121 m q ++ [e] := by
  have hv := h.view a.di.ok
  have hf : decide (¬ d.room < (d.used : Int) + (mineD 121 m[q]).2.2.2.2.1.length) = true := by
    have := a.us; have := a.di.room
    have hb' : (mineD 121 m[q]).2.2.2.2.1.length ≤ 300 := hb
    exact decide_eq_true (by omega)
  rw [hf] at hv
  have hv1 : e = _ := congrArg Prod.fst hv
  have hv2 : vOf d' = _ := congrArg Prod.snd hv
  obtain ⟨h1, h2⟩ := DStep.di a.di h
  obtain ⟨t1, t2⟩ := tx_succ 121 hp
  obtain ⟨o1, o2⟩ := vDeed_own (x := mineD 121 m[q]) a.ay (mineD_6 _ _) rfl
  have hb' : (mineD 121 m[q]).2.2.2.2.1.length ≤ 300 := hb
  refine ⟨⟨by rw [show p + (q + 1) = p + q + 1 from by omega]; exact h1, by have := a.us; omega, fun k hk => ?_, ?_, fun k hk hk' => ?_⟩, ?_⟩
  · rw [hv2, vDeed_not (c := 121) (mineD_6 _ _) rfl rfl (by rw [hk]; decide)]; exact a.ax k hk
  · rw [hv2, t2]; exact o2
  · rw [hv2, vDeed_not (c := 121) (mineD_6 _ _) rfl rfl hk']; exact a.no k hk hk'
  · rw [t1, hv1, o1]
theorem ApI.same {l m : List DeedT} {p q : Nat} {d d' : DiskM} (a : ApI l m p q d) (b : ApI l m p q d') (k : List UInt8) : vOf d k = vOf d' k := by
  by_cases h : k.head? = some 120
  · rw [a.ax k h, b.ax k h]
  · by_cases h' : k.head? = some 121
    · rw [a.ay k h', b.ay k h']
    · rw [a.no k h h', b.no k h h']
theorem ApI.zero (l m : List DeedT) : ApI l m 0 0 ⟨[], 0, [], 0, 1048576⟩ :=
  ⟨⟨ok0 1048576 (by decide) (by decide), rfl, Nat.le_refl _, by simp⟩, Nat.le_refl _, fun _ _ => rfl, fun _ _ => rfl, fun _ _ _ => rfl⟩

end Go.Proofs.YtkkcpckgnfcncaaDoor
