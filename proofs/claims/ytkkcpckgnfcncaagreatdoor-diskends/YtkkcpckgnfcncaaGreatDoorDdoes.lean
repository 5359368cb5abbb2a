import Derived.Test.YtkkcpckgnfcncaaGreatDoorDops
open Go Go.Sp
set_option maxRecDepth 100000
attribute [local irreducible] obj Own OwnP
namespace Go.Proofs.YtkkcpckgnfcncaaGreatDoor
theorem FactDdoes.flat22 : Go.Sp.flat1 Go.Proofs.Tryz.prog 22 = true := by kernel_rfl
theorem FactDdoes.flat3 : Go.Sp.flat1 Go.Proofs.Tryz.prog 3 = true := by kernel_rfl
theorem FactDdoes.flat9 : Go.Sp.flat1 Go.Proofs.Tryz.prog 9 = true := by kernel_rfl
theorem FactDdoes.fld48x0 : fieldOff Go.Proofs.Tryz.prog 48 0 = some 0 := by kernel_rfl
theorem FactDdoes.fld48x1 : fieldOff Go.Proofs.Tryz.prog 48 1 = some 1 := by kernel_rfl
theorem FactDdoes.fld48x2 : fieldOff Go.Proofs.Tryz.prog 48 2 = some 2 := by kernel_rfl
theorem FactDdoes.fld48x3 : fieldOff Go.Proofs.Tryz.prog 48 3 = some 3 := by kernel_rfl
theorem FactDdoes.fld48x4 : fieldOff Go.Proofs.Tryz.prog 48 4 = some 4 := by kernel_rfl
theorem FactDdoes.ok26 : callable Go.Proofs.Tryz.prog 26 = true := by kernel_rfl
theorem FactDdoes.ok28 : callable Go.Proofs.Tryz.prog 28 = true := by kernel_rfl
theorem FactDdoes.ok40 : callable Go.Proofs.Tryz.prog 40 = true := by kernel_rfl
theorem FactDdoes.ok41 : callable Go.Proofs.Tryz.prog 41 = true := by kernel_rfl
theorem FactDdoes.ok42 : callable Go.Proofs.Tryz.prog 42 = true := by kernel_rfl
theorem FactDdoes.ok43 : callable Go.Proofs.Tryz.prog 43 = true := by kernel_rfl
theorem FactDdoes.ok9 : callable Go.Proofs.Tryz.prog 9 = true := by kernel_rfl

/-- what a deed tells, and leaves -/
def DStep (m : DiskM) (x : DeedT) (e : Int) (m' : DiskM) : Prop :=
  if pick x.1 7 = 2 then e = dSyncE m x.2.2.1 ∧ m' = dSyncM m x.2.2.1
  else if pick x.1 7 = 3 then e = dCutE m x.2.2.1 x.2.1 ∧ m' = dCutM m x.2.2.1 x.2.1
  else if pick x.1 7 = 4 then e = dRenE m x.2.2.1 x.2.2.2.1 ∧ m' = dRenM m x.2.2.1 x.2.2.2.1
  else if pick x.1 7 = 5 then e = dRemE m x.2.2.1 ∧ m' = dRemM m x.2.2.1
  else if pick x.1 7 = 6 then e = 0 ∧ ∃ s' c1' l' c2', CrashR m.safe m.loose s' l' c1' c2' x.2.1 ∧ m' = ⟨s', c1', l', c2', m.room⟩
  else e = dAppE m x.2.2.1 x.2.2.2.2.1 ∧ m' = dAppM m x.2.2.1 x.2.2.2.2.1
theorem does_g {r : Fr} {d q1 q2 : Nat} {m : DiskM} {va : Value} {x : DeedT} (hat : At r ⟨d, 0, none⟩ (dC q1 q2 m.room)) (ok : DOk m) (ha : Arr Rp.u8 r va x.2.2.2.2.1) (h3 : x.2.2.1.length ≤ 9223372036854775807) (h4 : x.2.2.2.1.length ≤ 9223372036854775807) (h5 : x.2.2.2.2.1.length ≤ 1000000000000) :
    Con Go.Proofs.Tryz.prog 21 #[.pointer (some ⟨d, 0, none⟩), .agg #[.int .i64 x.1, .int .i64 x.2.1, .string (str x.2.2.1), .string (str x.2.2.2.1), va]] r (dW q1 q2 m) (Ret fun v η => ∃ e m', DStep m x e m' ∧ v = .int .i64 e ∧ η = dW q1 q2 m') := by
  refine Con.of (n := 48) [.pointer (some ⟨d, 0, none⟩), .agg #[.int .i64 x.1, .int .i64 x.2.1, .string (str x.2.2.1), .string (str x.2.2.2.1), va]] rfl Go.Proofs.Tryz.func21 rfl rfl rfl fun g hg R hR => ?_
  replace hat : At g.h ⟨d, 0, none⟩ (dC q1 q2 m.room) := At.mono hg hat
  have ha := ha.mono hg
  obtain ⟨a1, c1, rfl⟩ := ha.shape
  refine S.seq (S.region rfl ?_)
  refine O.opE (.p rfl) (.box (cs := [_, _, _, _, _]) rfl rfl) ?_
  rintro _ _ ⟨b3, rfl, rfl⟩
  refine O.op (.p rfl) (.as rfl) ?_
  refine O.nil ?_
  refine S.seq (S.seq (S.region rfl ?_))
  refine O.op (.p rfl) (.fieldObj FactDdoes.fld48x0 rfl) ?_
  refine O.op (.p rfl) (.loadObj FactDdoes.flat3 rfl (by repeat (first | exact Sel.here | apply Sel.there)) rfl) ?_
  refine O.call0 (.p rfl) rfl FactDdoes.ok40 rfl rfl (Pick_c _ _ (by first | assumption | (constructor <;> omega))) ?_
  rintro v7 _ ⟨rfl, rfl⟩
  try simp only [List.cons_append, List.nil_append, List.append_nil]
  refine O.nil ?_
  refine S.block (S.seq (S.region rfl ?_))
  refine O.op (.p rfl) (.eql rfl rfl) ?_
  refine O.op (.p rfl) (.as rfl) ?_
  refine O.nil ?_
  first | refine S.condD rfl (fun h8 => ?_) (fun h8 => ?_) | refine S.condB rfl (fun h8 => ?_) (fun h8 => ?_)
  · have hp : pick x.1 7 = 2 := by omega
    refine S.seq (S.region rfl ?_)
    refine O.op (.p rfl) (.mv rfl) ?_
    refine O.op (.p rfl) (.fieldObj FactDdoes.fld48x2 rfl) ?_
    refine O.op (.p rfl) (.loadObj FactDdoes.flat9 rfl (by repeat (first | exact Sel.here | apply Sel.there)) rfl) ?_
    refine O.callSs (.p rfl) rfl FactDdoes.ok26 rfl rfl (by repeat (first | exact Sels.nil | (apply Sels.cons; focus (repeat (first | exact Sel.here | apply Sel.there))))) (sync_g (name := x.2.2.1) hat ok) ?_
    rintro v13 _ ⟨rfl, rfl⟩
    try simp only [List.cons_append, List.nil_append, List.append_nil]
    refine O.op (.p rfl) (.as rfl) ?_
    refine O.nil ?_
    refine S.ret Go.Proofs.Tryz.results21 rfl fun w hw => Holds.end_ hR hw ?_
    exact ⟨_, ⟨_, _, by unfold DStep; rw [if_pos hp]; exact ⟨rfl, rfl⟩, rfl, rfl⟩, by repeat (first | exact Picks.all | exact Picks.nil | (apply Picks.cons; focus (repeat (first | exact Sel.here | apply Sel.there))) | apply Picks.skip)⟩
  · have n2 : ¬ pick x.1 7 = 2 := by omega
    refine S.seq (S.region rfl ?_)
    refine O.op (.p rfl) (.eql rfl rfl) ?_
    refine O.op (.p rfl) (.as rfl) ?_
    refine O.nil ?_
    first | refine S.condD rfl (fun h14 => ?_) (fun h14 => ?_) | refine S.condB rfl (fun h14 => ?_) (fun h14 => ?_)
    · have hp : pick x.1 7 = 3 := by omega
      refine S.seq (S.region rfl ?_)
      refine O.op (.p rfl) (.mv rfl) ?_
      refine O.op (.p rfl) (.fieldObj FactDdoes.fld48x2 rfl) ?_
      refine O.op (.p rfl) (.loadObj FactDdoes.flat9 rfl (by repeat (first | exact Sel.here | apply Sel.there)) rfl) ?_
      refine O.op (.p rfl) (.fieldObj FactDdoes.fld48x1 rfl) ?_
      refine O.op (.p rfl) (.loadObj FactDdoes.flat3 rfl (by repeat (first | exact Sel.here | apply Sel.there)) rfl) ?_
      refine O.callSs (.p rfl) rfl FactDdoes.ok41 rfl rfl (by repeat (first | exact Sels.nil | (apply Sels.cons; focus (repeat (first | exact Sel.here | apply Sel.there))))) (cut_g (name := x.2.2.1) x.2.1 hat ok) ?_
      rintro v21 _ ⟨rfl, rfl⟩
      try simp only [List.cons_append, List.nil_append, List.append_nil]
      refine O.op (.p rfl) (.as rfl) ?_
      refine O.nil ?_
      refine S.ret Go.Proofs.Tryz.results21 rfl fun w hw => Holds.end_ hR hw ?_
      exact ⟨_, ⟨_, _, by unfold DStep; rw [if_neg n2, if_pos hp]; exact ⟨rfl, rfl⟩, rfl, rfl⟩, by repeat (first | exact Picks.all | exact Picks.nil | (apply Picks.cons; focus (repeat (first | exact Sel.here | apply Sel.there))) | apply Picks.skip)⟩
    · have n3 : ¬ pick x.1 7 = 3 := by omega
      refine S.seq (S.region rfl ?_)
      refine O.op (.p rfl) (.eql rfl rfl) ?_
      refine O.op (.p rfl) (.as rfl) ?_
      refine O.nil ?_
      first | refine S.condD rfl (fun h22 => ?_) (fun h22 => ?_) | refine S.condB rfl (fun h22 => ?_) (fun h22 => ?_)
      · have hp : pick x.1 7 = 4 := by omega
        refine S.seq (S.region rfl ?_)
        refine O.op (.p rfl) (.mv rfl) ?_
        refine O.op (.p rfl) (.fieldObj FactDdoes.fld48x2 rfl) ?_
        refine O.op (.p rfl) (.loadObj FactDdoes.flat9 rfl (by repeat (first | exact Sel.here | apply Sel.there)) rfl) ?_
        refine O.op (.p rfl) (.fieldObj FactDdoes.fld48x3 rfl) ?_
        refine O.op (.p rfl) (.loadObj FactDdoes.flat9 rfl (by repeat (first | exact Sel.here | apply Sel.there)) rfl) ?_
        refine O.callSs (.p rfl) rfl FactDdoes.ok42 rfl rfl (by repeat (first | exact Sels.nil | (apply Sels.cons; focus (repeat (first | exact Sel.here | apply Sel.there))))) (rename_g (a := x.2.2.1) (b := x.2.2.2.1) hat h3 h4) ?_
        rintro v29 _ ⟨rfl, rfl⟩
        try simp only [List.cons_append, List.nil_append, List.append_nil]
        refine O.op (.p rfl) (.as rfl) ?_
        refine O.nil ?_
        refine S.ret Go.Proofs.Tryz.results21 rfl fun w hw => Holds.end_ hR hw ?_
        exact ⟨_, ⟨_, _, by unfold DStep; rw [if_neg n2, if_neg n3, if_pos hp]; exact ⟨rfl, rfl⟩, rfl, rfl⟩, by repeat (first | exact Picks.all | exact Picks.nil | (apply Picks.cons; focus (repeat (first | exact Sel.here | apply Sel.there))) | apply Picks.skip)⟩
      · have n4 : ¬ pick x.1 7 = 4 := by omega
        refine S.seq (S.region rfl ?_)
        refine O.op (.p rfl) (.eql rfl rfl) ?_
        refine O.op (.p rfl) (.as rfl) ?_
        refine O.nil ?_
        first | refine S.condD rfl (fun h30 => ?_) (fun h30 => ?_) | refine S.condB rfl (fun h30 => ?_) (fun h30 => ?_)
        · have hp : pick x.1 7 = 5 := by omega
          refine S.seq (S.region rfl ?_)
          refine O.op (.p rfl) (.mv rfl) ?_
          refine O.op (.p rfl) (.fieldObj FactDdoes.fld48x2 rfl) ?_
          refine O.op (.p rfl) (.loadObj FactDdoes.flat9 rfl (by repeat (first | exact Sel.here | apply Sel.there)) rfl) ?_
          refine O.callSs (.p rfl) rfl FactDdoes.ok43 rfl rfl (by repeat (first | exact Sels.nil | (apply Sels.cons; focus (repeat (first | exact Sel.here | apply Sel.there))))) (remove_g (name := x.2.2.1) hat h3) ?_
          rintro v35 _ ⟨rfl, rfl⟩
          try simp only [List.cons_append, List.nil_append, List.append_nil]
          refine O.op (.p rfl) (.as rfl) ?_
          refine O.nil ?_
          refine S.ret Go.Proofs.Tryz.results21 rfl fun w hw => Holds.end_ hR hw ?_
          exact ⟨_, ⟨_, _, by unfold DStep; rw [if_neg n2, if_neg n3, if_neg n4, if_pos hp]; exact ⟨rfl, rfl⟩, rfl, rfl⟩, by repeat (first | exact Picks.all | exact Picks.nil | (apply Picks.cons; focus (repeat (first | exact Sel.here | apply Sel.there))) | apply Picks.skip)⟩
        · have n5 : ¬ pick x.1 7 = 5 := by omega
          refine S.seq (S.region rfl ?_)
          refine O.op (.p rfl) (.eql rfl rfl) ?_
          refine O.op (.p rfl) (.as rfl) ?_
          refine O.nil ?_
          first | refine S.condD rfl (fun h36 => ?_) (fun h36 => ?_) | refine S.condB rfl (fun h36 => ?_) (fun h36 => ?_)
          · have hp : pick x.1 7 = 6 := by omega
            refine S.seq (S.region rfl ?_)
            refine O.op (.p rfl) (.mv rfl) ?_
            refine O.op (.p rfl) (.fieldObj FactDdoes.fld48x1 rfl) ?_
            refine O.op (.p rfl) (.loadObj FactDdoes.flat3 rfl (by repeat (first | exact Sel.here | apply Sel.there)) rfl) ?_
            refine O.callSs (.p rfl) rfl FactDdoes.ok28 rfl rfl (by repeat (first | exact Sels.nil | (apply Sels.cons; focus (repeat (first | exact Sel.here | apply Sel.there))))) (crash_g (keep := x.2.1) hat ok.w1 ok.w2 ok.sub ok.le) ?_
            rintro v41 _ ⟨s', c1', l', c2', hcr, rfl, rfl⟩
            try simp only [List.cons_append, List.nil_append, List.append_nil]
            refine O.nil ?_
            refine S.seq (S.region rfl ?_)
            refine O.op (.p rfl) (.as rfl) ?_
            refine O.nil ?_
            refine S.ret Go.Proofs.Tryz.results21 rfl fun w hw => Holds.end_ hR hw ?_
            exact ⟨_, ⟨0, ⟨s', c1', l', c2', m.room⟩, by unfold DStep; rw [if_neg n2, if_neg n3, if_neg n4, if_neg n5, if_pos hp]; exact ⟨rfl, s', c1', l', c2', hcr, rfl⟩, rfl, rfl⟩, by repeat (first | exact Picks.all | exact Picks.nil | (apply Picks.cons; focus (repeat (first | exact Sel.here | apply Sel.there))) | apply Picks.skip)⟩
          · have n6 : ¬ pick x.1 7 = 6 := by omega
            refine S.skip (S.inBlock (S.seq (S.region rfl ?_)))
            refine O.op (.p rfl) (.mv rfl) ?_
            refine O.op (.p rfl) (.fieldObj FactDdoes.fld48x2 rfl) ?_
            refine O.op (.p rfl) (.loadObj FactDdoes.flat9 rfl (by repeat (first | exact Sel.here | apply Sel.there)) rfl) ?_
            refine O.op (.p rfl) (.fieldObj FactDdoes.fld48x4 rfl) ?_
            refine O.op (.p rfl) (.loadObj FactDdoes.flat22 rfl (by repeat (first | exact Sel.here | apply Sel.there)) rfl) ?_
            refine O.callSs (.p rfl) rfl FactDdoes.ok9 rfl rfl (by repeat (first | exact Sels.nil | (apply Sels.cons; focus (repeat (first | exact Sel.here | apply Sel.there))))) (append_g (name := x.2.2.1) hat ok ha h3 h5) ?_
            rintro v47 _ ⟨rfl, rfl⟩
            try simp only [List.cons_append, List.nil_append, List.append_nil]
            refine O.op (.p rfl) (.as rfl) ?_
            refine O.nil ?_
            refine S.ret Go.Proofs.Tryz.results21 rfl fun w hw => Holds.end_ hR hw ?_
            exact ⟨_, ⟨_, _, by unfold DStep; rw [if_neg n2, if_neg n3, if_neg n4, if_neg n5, if_neg n6]; exact ⟨rfl, rfl⟩, rfl, rfl⟩, by repeat (first | exact Picks.all | exact Picks.nil | (apply Picks.cons; focus (repeat (first | exact Sel.here | apply Sel.there))) | apply Picks.skip)⟩
/-- a disk of such room, with so many files at most, whose names are short -/
structure DI (R0 : Int) (N : Nat) (m : DiskM) : Prop where
  ok : DOk m
  room : m.room = R0
  len : m.safe.length ≤ N
  q : ∀ x ∈ m.safe, x.1.length ≤ 24
theorem nameOk_len {n : List UInt8} (h : nameOk n = true) : n.length ≤ 24 := by
  unfold nameOk at h; simp at h; omega
theorem len_of_keys {m m' : SS} {c c' : Nat} (h : WfT m c) (h' : WfT m' c') (he : ∀ k, (getT m k).isSome = true → (getT m' k).isSome = true) : m.length ≤ m'.length := by
  have hs : (m.map (·.1)).Subset (m'.map (·.1)) := fun k hk => by
    have h1 : (getT m k).isSome = true := by
      cases hg : getT m k with
      | none => exact absurd hk (getT_none.1 hg)
      | some _ => rfl
    have h2 := he k h1
    cases hg : getT m' k with
    | none => rw [hg] at h2; cases h2
    | some _ =>
      by_cases hm : k ∈ m'.map (·.1)
      · exact hm
      · rw [getT_none.2 hm] at hg; cases hg
  have := List.Nodup.length_le_of_subset h.2.2 (fun _ hx => hs hx)
  simpa using this
theorem has_mem {m : SS} {k : List UInt8} : (getT m k).isSome = true ↔ k ∈ m.map (·.1) := by
  have := getT_none (m := m) (k := k)
  cases hg : getT m k <;> simp_all
/-- the files behind a step: those that were, and perhaps one more with a name that is right -/
theorem DI.of {R0 : Int} {N : Nat} {m m' : DiskM} (c : DI R0 N m) (ok' : DOk m') (hr : m'.room = m.room) (n : List UInt8) (hn : nameOk n = true) (hk : ∀ k, (getT m'.safe k).isSome = true → k = n ∨ (getT m.safe k).isSome = true) : DI R0 (N + 1) m' := by
  refine ⟨ok', hr.trans c.room, ?_, fun x hx => ?_⟩
  · have hp : WfT (putT m.safe m.c1 n ((getT m.safe n).getD [])) (clkT m.safe m.c1 n) := putT_wf c.ok.w1 _ _
    have h1 := len_of_keys ok'.w1 hp fun k hk' => by
      rw [getT_put]
      rcases hk k hk' with rfl | h
      · rw [if_pos rfl]; rfl
      · split
        · rfl
        · exact h
    have h2 : (putT m.safe m.c1 n ((getT m.safe n).getD [])).length ≤ m.safe.length + 1 := by
      unfold putT; split
      · have := congrArg List.length (setT_keys n ((getT m.safe n).getD []) m.safe).1; simp at this; omega
      · simp
    have := c.len
    omega
  · have hm : (getT m'.safe x.1).isSome = true := has_mem.2 (List.mem_map_of_mem hx)
    rcases hk _ hm with e | h
    · rw [e]; exact nameOk_len hn
    · obtain ⟨y, hy, he⟩ := List.mem_map.1 (has_mem.1 h)
      rw [← he]; exact c.q y hy
theorem DI.more {R0 : Int} {N N' : Nat} {m : DiskM} (c : DI R0 N m) (h : N ≤ N') : DI R0 N' m := ⟨c.ok, c.room, Nat.le_trans c.len h, c.q⟩
theorem nameOk_a : nameOk [97] = true := by decide
theorem DStep.di {R0 : Int} {N : Nat} {m m' : DiskM} {x : DeedT} {e : Int} (c : DI R0 N m) (h : DStep m x e m') (hs : m.used + x.2.2.2.2.1.length ≤ 1000000000000) : DI R0 (N + 1) m' ∧ m'.used ≤ m.used + x.2.2.2.2.1.length := by
  have same : ∀ {m2 : DiskM}, DOk m2 → m2.room = m.room → (∀ k, (getT m2.safe k).isSome = true → (getT m.safe k).isSome = true) → DI R0 (N + 1) m2 := fun ok2 hr hk => c.of ok2 hr [97] nameOk_a fun k hk' => .inr (hk k hk')
  have firm : ∀ n j, dHas m n = true → DI R0 (N + 1) (dFirm m n j) ∧ (dFirm m n j).used ≤ m.used + x.2.2.2.2.1.length := fun n j hn => by
    refine ⟨same (dFirm_ok c.ok) rfl fun k hk => ?_, ?_⟩
    · simp only [dFirm] at hk; rw [getT_put] at hk
      split at hk
      · rename_i e; rw [e]; exact hn
      · exact hk
    · have hp1 := sumT_put m.safe m.c1 n ((bytesT m.safe m.loose n).take j)
      have hp2 := sumT_del m.loose n
      rw [List.length_take] at hp1
      unfold bytesT at hp1
      rw [List.length_append] at hp1
      simp only [dFirm, DiskM.used, bytesT]
      omega
  unfold DStep at h
  split at h
  · obtain ⟨rfl, rfl⟩ := h
    unfold dSyncM
    split
    · rename_i hh; exact firm _ _ hh
    · exact ⟨c.more (by omega), by omega⟩
  · split at h
    · obtain ⟨rfl, rfl⟩ := h
      unfold dCutM
      split
      · rename_i hh
        refine firm _ _ ?_
        unfold dCutE at hh
        split at hh
        · assumption
        · cases hh
      · exact ⟨c.more (by omega), by omega⟩
    · split at h
      · obtain ⟨rfl, rfl⟩ := h
        unfold dRenM
        split
        · rename_i hh
          have hn : nameOk x.2.2.2.1 = true := by
            unfold dRenE at hh
            split at hh
            · rename_i h2; rw [Bool.and_eq_true] at h2; exact h2.2
            · cases hh
          refine ⟨c.of (dRen_ok c.ok) rfl x.2.2.2.1 hn fun k hk => ?_, ?_⟩
          · simp only [dRen] at hk; rw [getT_put] at hk
            split at hk
            · rename_i e; exact .inl e
            · rw [goneS_get c.ok.w1] at hk
              split at hk
              · cases hk
              · exact .inr hk
          · have h1 := gone2_sum c.ok.w1 x.2.2.1 x.2.2.2.1
            have h2 := gone2_sum c.ok.w2 x.2.2.1 x.2.2.2.1
            have h3 := sumT_put (goneS m.safe [x.2.2.1, x.2.2.2.1]) m.c1 x.2.2.2.1 ((getT m.safe x.2.2.1).getD [])
            have h4 := sumT_put (goneS m.loose [x.2.2.1, x.2.2.2.1]) m.c2 x.2.2.2.1 ((getT m.loose x.2.2.1).getD [])
            simp only [dRen, DiskM.used]
            split <;> omega
        · exact ⟨c.more (by omega), by omega⟩
      · split at h
        · obtain ⟨rfl, rfl⟩ := h
          unfold dRemM
          split
          · refine ⟨same (dGone_ok c.ok) rfl fun k hk => ?_, ?_⟩
            · simp only [dGone] at hk; rw [goneS_get c.ok.w1] at hk
              split at hk
              · cases hk
              · exact hk
            · have h1 := goneS_sum m.safe [x.2.2.1]
              have h2 := goneS_sum m.loose [x.2.2.1]
              simp only [dGone, DiskM.used]; omega
          · exact ⟨c.more (by omega), by omega⟩
        · split at h
          · obtain ⟨rfl, s', c1', l', c2', hc, rfl⟩ := h
            refine ⟨same (crash_ok c.ok hc) rfl fun k hk => ?_, ?_⟩
            · simp only at hk; rw [hc.safe k] at hk
              cases hg : getT m.safe k with
              | none => rw [hg] at hk; cases hk
              | some _ => rfl
            · have := hc.fits; simp only [DiskM.used]; omega
          · obtain ⟨rfl, rfl⟩ := h
            unfold dAppM
            split
            · rename_i hh
              have hn : nameOk x.2.2.1 = true := by
                unfold dAppE at hh
                split at hh
                · assumption
                · cases hh
              refine ⟨c.of (dApp_ok c.ok (dAppE_fit hh) hs) rfl x.2.2.1 hn fun k hk => ?_, ?_⟩
              · simp only [dApp] at hk; rw [getT_put] at hk
                split at hk
                · rename_i e; exact .inl e
                · exact .inr hk
              · have hp1 := sumT_put m.safe m.c1 x.2.2.1 ((getT m.safe x.2.2.1).getD [])
                have hp2 := sumT_put m.loose m.c2 x.2.2.1 ((getT m.loose x.2.2.1).getD [] ++ x.2.2.2.2.1)
                rw [List.length_append] at hp2
                simp only [dApp, DiskM.used]
                split <;> omega
            · exact ⟨c.more (by omega), by omega⟩

end Go.Proofs.YtkkcpckgnfcncaaGreatDoor
