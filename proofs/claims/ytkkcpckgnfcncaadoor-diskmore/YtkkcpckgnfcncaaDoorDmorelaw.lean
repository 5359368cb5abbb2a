import Derived.Test.YtkkcpckgnfcncaaDoorDalike
open Go Go.Sp
set_option maxRecDepth 100000
attribute [local irreducible] obj Own OwnP
namespace Go.Proofs.YtkkcpckgnfcncaaDoor
theorem FactDmorelaw.flat9 : Go.Sp.flat1 Go.Proofs.Tryd.prog 9 = true := by kernel_rfl
theorem FactDmorelaw.ok13 : callable Go.Proofs.Tryd.prog 13 = true := by kernel_rfl
theorem FactDmorelaw.ok15 : callable Go.Proofs.Tryd.prog 15 = true := by kernel_rfl
theorem FactDmorelaw.ok17 : callable Go.Proofs.Tryd.prog 17 = true := by kernel_rfl
theorem FactDmorelaw.ok18 : callable Go.Proofs.Tryd.prog 18 = true := by kernel_rfl
theorem FactDmorelaw.ok19 : callable Go.Proofs.Tryd.prog 19 = true := by kernel_rfl
theorem FactDmorelaw.ok21 : callable Go.Proofs.Tryd.prog 21 = true := by kernel_rfl
theorem FactDmorelaw.ok22 : callable Go.Proofs.Tryd.prog 22 = true := by kernel_rfl
theorem FactDmorelaw.ok23 : callable Go.Proofs.Tryd.prog 23 = true := by kernel_rfl
theorem FactDmorelaw.ok7 : callable Go.Proofs.Tryd.prog 7 = true := by kernel_rfl
theorem FactDmorelaw.ok8 : callable Go.Proofs.Tryd.prog 8 = true := by kernel_rfl
theorem FactDmorelaw.ok9 : callable Go.Proofs.Tryd.prog 9 = true := by kernel_rfl
theorem FactDmorelaw.size33 : (Go.Proofs.Tryd.prog.info? 33).map (·.size) = some 5 := by kernel_rfl
theorem FactDmorelaw.size5 : (Go.Proofs.Tryd.prog.info? 5).map (·.size) = some 1 := by kernel_rfl
theorem FactDmorelaw.size9 : (Go.Proofs.Tryd.prog.info? 9).map (·.size) = some 1 := by kernel_rfl

theorem crashB_nil (keep : Int) (s : List UInt8) : crashB keep s [] = s := by simp [crashB, kk]
theorem names_mem {m : SS} {k : List UInt8} (h : k ∈ namesT m) : (getT m k).isSome = true := has_mem.2 ((sortT_perm _).mem_iff.1 h)
theorem more_facts (k1 k2 : Int) (h : k1 ≤ k2) (s l : List UInt8) : ∃ a b, a ≤ b ∧ b ≤ (s ++ l).length ∧ crashB k1 s l = (s ++ l).take a ∧ crashB k2 s l = (s ++ l).take b := by
  refine ⟨s.length + kk k1 l.length, s.length + kk k2 l.length, ?_, ?_, rfl, rfl⟩
  · unfold kk; omega
  · unfold kk; rw [List.length_append]; omega
theorem all_facts {k : Int} {s l : List UInt8} (h : (l.length : Int) ≤ k) : crashB k s l = s ++ l := by
  unfold crashB kk
  exact List.take_of_length_le (by rw [List.length_append]; omega)
theorem loose_used {m : DiskM} {k s l : List UInt8} (h : vOf m k = some (s, l)) : l.length ≤ m.used := by
  unfold vOf at h
  obtain ⟨s', _, e⟩ := Option.map_eq_some_iff.1 h
  simp only [Prod.mk.injEq] at e
  have := getT_le m.loose k
  rw [e.2] at this
  unfold DiskM.used; omega
theorem read_view {m : DiskM} (ok : DOk m) {k s l : List UInt8} (h : vOf m k = some (s, l)) : dRead m k = s ++ l ∧ dSyncE m k = 0 := by
  unfold dRead dSyncE
  rw [vOf_has, vOf_bytes ok, h]
  exact ⟨rfl, rfl⟩
theorem diskMore_c {r : Fr} {va : Value} {ds : List DeedT} {keep more : Int} (ha : Arr DeedR r va ds) (hq : ∀ x ∈ ds, x.2.2.1.length ≤ 140737488355328 ∧ x.2.2.2.1.length ≤ 140737488355328) :
    Con Go.Proofs.Tryd.prog 6 #[va, .int .i64 keep, .int .i64 more] r [] (Ret fun v η => v = .bool true ∧ η = []) := by
  refine Con.of (n := 182) [va, .int .i64 keep, .int .i64 more] rfl Go.Proofs.Tryd.func6 rfl rfl rfl fun g hg R hR => ?_
  have ha := ha.mono hg
  obtain ⟨a1, c1, rfl⟩ := ha.shape
  refine S.seq (S.region rfl ?_)
  refine O.op (.p rfl) (.as rfl) ?_
  refine O.nil ?_
  refine S.seq (S.seq (S.region rfl ?_))
  refine O.call0 (.p rfl) rfl FactDmorelaw.ok7 rfl rfl (awake_c) ?_
  rintro v24 _ ⟨rfl, rfl⟩
  try simp only [List.cons_append, List.nil_append, List.append_nil]
  refine O.op (.p rfl) (.not rfl) ?_
  refine O.nil ?_
  refine S.condF rfl ?_
  refine S.skip (S.seq (S.seq (S.region rfl ?_)))
  refine O.op (.p rfl) (.mv rfl) ?_
  refine O.call0 (.p rfl) rfl FactDmorelaw.ok8 rfl rfl (light_c ha hq) ?_
  rintro v27 _ ⟨rfl, rfl⟩
  try simp only [List.cons_append, List.nil_append, List.append_nil]
  refine O.op (.p rfl) ((by first | exact .notD rfl | exact .not rfl)) ?_
  refine O.nil ?_
  first | refine S.condD rfl (fun h28 => ?_) (fun h28 => ?_) | refine S.condB rfl (fun h28 => ?_) (fun h28 => ?_)
  · refine S.seq (S.region rfl ?_)
    refine O.op (.p rfl) (.as rfl) ?_
    refine O.nil ?_
    refine S.ret Go.Proofs.Tryd.results6 rfl fun w hw => Holds.end_ hR hw ?_
    exact ⟨_, ⟨rfl, rfl⟩, by repeat (first | exact Picks.all | exact Picks.nil | (apply Picks.cons; focus (repeat (first | exact Sel.here | apply Sel.there))) | apply Picks.skip)⟩
  · have hli : lightB ds = true := by simpa using h28
    obtain ⟨hl80, hlx⟩ := light_all hli
    have ok1 := ok0 1048576 (by decide) (by decide)
    refine S.skip (S.seq (S.region rfl ?_))
    refine O.call0 (.p rfl) rfl FactDmorelaw.ok9 rfl rfl (newR_c (room := 1048576) (by decide)) ?_
    rintro v29 _ ⟨d29, q129, q229, rfl, rfl⟩
    try simp only [List.cons_append, List.nil_append, List.append_nil]
    refine O.frzO (by repeat (first | exact Sel.here | apply Sel.there)) fun g hs hm hat => ?_
    replace hg := Fr.sub_trans hg hs
    replace hR := melted hR hm
    try replace ha := ha.mono hs
    clear hs hm
    refine O.op (.p rfl) (.as rfl) ?_
    refine O.nil ?_
    refine S.seq (S.seq (S.region rfl ?_))
    refine O.op (.p rfl) (.as rfl) ?_
    refine O.nil ?_
    refine S.block ?_
    refine S.loopK2 (ι := Nat) (κ := DiskM) (fun i m => i ≤ ds.length ∧ DI 1048576 i m ∧ m.used ≤ 300 * i) (fun i m => [(8, .int .i64 (i : Int))]) [(0, _), (1, _), (2, _), (7, _)] (fun i m => [MapT q129 m.safe m.c1, MapT q229 m.loose m.c2]) (fun i m => ds.length - i) (0) (⟨[], 0, [], 0, 1048576⟩) (by exact ⟨Nat.zero_le _, ⟨ok1, rfl, by simp, by simp⟩, by simp [DiskM.used, sumT]⟩) (.cons rfl (.nil)) (.cons rfl (.cons rfl (.cons rfl (.cons rfl (.nil))))) rfl fun i m hx ih => ?_
    have hm1 := meltRefl (g := g)
    obtain ⟨hx1, di, hus⟩ := hx
    have hat' : At g.h ⟨d29, 0, none⟩ (dC q129 q229 m.room) := by rw [di.room]; exact hat
    refine S.seq (S.seq (S.region rfl ?_))
    refine O.op (.p rfl) (.mv rfl) ?_
    refine O.op (.p rfl) (.mv rfl) ?_
    refine O.op (.p rfl) (.len rfl Go.Proofs.Tryd.underlying22 rfl) ?_
    refine O.op (.p rfl) (.lss rfl rfl) ?_
    refine O.nil ?_
    first | refine S.condD rfl (fun h33 => ?_) (fun h33 => ?_) | refine S.condB rfl (fun h33 => ?_) (fun h33 => ?_)
    · have hi : i < ds.length := by omega
      obtain ⟨hl1, hl2⟩ := hlx ds[i] (List.getElem_mem hi)
      refine S.skip (S.seq (S.block (S.region rfl ?_)))
      refine O.op (.p rfl) (.mv rfl) ?_
      refine O.op (.p rfl) (.mv rfl) ?_
      refine O.op (.p rfl) (.mv rfl) ?_
      refine O.idx' (.p rfl) Go.Proofs.Tryd.underlying22 FactDmorelaw.size33 rfl rfl rfl (ha) (by decide) (by first | omega | (simp; done) | (simp; omega) | decide) (fun p39 cs39 hp39 hr39 => ?_)
      obtain ⟨a39, c39, rfl, hd39, hb139, hb239⟩ := DeedR.open hr39
      refine O.op (.p rfl) (.loadAgg Go.Proofs.Tryd.isAgg33 (by kernel_rfl) rfl hp39) ?_
      refine O.callSs (.p rfl) rfl FactDmorelaw.ok17 rfl rfl (by repeat (first | exact Sels.nil | (apply Sels.cons; focus (repeat (first | exact Sel.here | apply Sel.there))))) (does_g (x := ds[i]) hat' di.ok hd39 hb139 hb239 (by omega)) ?_
      rintro v41 _ ⟨e41, m41, hst, rfl, rfl⟩
      try simp only [List.cons_append, List.nil_append, List.append_nil]
      refine O.nil ?_
      refine S.inBlock (S.region rfl ?_)
      refine O.op (.p rfl) (.mv rfl) ?_
      refine O.op (.p rfl) (.add rfl rfl (IntWalk.i64_in _ (by omega))) ?_
      refine O.op (.p rfl) (.as rfl) ?_
      refine O.nil ?_
      obtain ⟨di2, hu2⟩ := DStep.di di hst
      refine S.pk ?_ (S.weaken ?_ (ih (i + 1) (m41) (by exact ⟨by omega, di2, by omega⟩) (by omega)))
      · repeat (first | exact Picks.all | exact Picks.nil | (apply Picks.cons; focus (repeat (first | exact Sel.here | apply Sel.there))) | apply Picks.skip)
      repeat (first | exact Sub.nil | refine Sub.cons rfl ?_)
    · clear ih
      refine S.exit rfl ?_
      refine S.seq (S.region rfl ?_)
      refine O.op (.p rfl) (.mv rfl) ?_
      refine O.callSs (.p rfl) rfl FactDmorelaw.ok19 rfl rfl (by repeat (first | exact Sels.nil | (apply Sels.cons; focus (repeat (first | exact Sel.here | apply Sel.there))))) (copy_g hat') ?_
      rintro v43 _ ⟨d43, u43, w43, rfl, rfl⟩
      try simp only [List.cons_append, List.nil_append, List.append_nil]
      refine O.frzO (by repeat (first | exact Sel.here | apply Sel.there)) fun g hs hm hatA => ?_
      replace hg := Fr.sub_trans hg hs
      replace hR := melted hR hm
      try replace ha := ha.mono hs
      try replace hat := hat.mono hs
      try replace hat' := hat'.mono hs
      replace hm1 := meltTrans hm1 hm
      clear hs hm
      refine O.op (.p rfl) (.mv rfl) ?_
      refine O.callSs (.p rfl) rfl FactDmorelaw.ok19 rfl rfl (by repeat (first | exact Sels.nil | (apply Sels.cons; focus (repeat (first | exact Sel.here | apply Sel.there))))) (copy_g hat') ?_
      rintro v45 _ ⟨d45, u45, w45, rfl, rfl⟩
      try simp only [List.cons_append, List.nil_append, List.append_nil]
      refine O.frzO (by repeat (first | exact Sel.here | apply Sel.there)) fun g hs hm hatB => ?_
      replace hg := Fr.sub_trans hg hs
      replace hR := melted hR hm
      try replace ha := ha.mono hs
      try replace hat := hat.mono hs
      try replace hat' := hat'.mono hs
      try replace hatA := hatA.mono hs
      replace hm1 := meltTrans hm1 hm
      clear hs hm
      refine O.op (.p rfl) (.mv rfl) ?_
      refine O.callSs (.p rfl) rfl FactDmorelaw.ok19 rfl rfl (by repeat (first | exact Sels.nil | (apply Sels.cons; focus (repeat (first | exact Sel.here | apply Sel.there))))) (copy_g hat') ?_
      rintro v47 _ ⟨d47, u47, w47, rfl, rfl⟩
      try simp only [List.cons_append, List.nil_append, List.append_nil]
      refine O.frzO (by repeat (first | exact Sel.here | apply Sel.there)) fun g hs hm hatC => ?_
      replace hg := Fr.sub_trans hg hs
      replace hR := melted hR hm
      try replace ha := ha.mono hs
      try replace hat := hat.mono hs
      try replace hat' := hat'.mono hs
      try replace hatA := hatA.mono hs
      try replace hatB := hatB.mono hs
      replace hm1 := meltTrans hm1 hm
      clear hs hm
      refine O.op (.p rfl) (.as rfl) ?_
      refine O.op (.p rfl) (.as rfl) ?_
      refine O.op (.p rfl) (.as rfl) ?_
      refine O.nil ?_
      refine S.seq (S.region rfl ?_)
      refine O.op (.p rfl) (.mv rfl) ?_
      refine O.op (.p rfl) (.mv rfl) ?_
      refine O.op (.p rfl) (.mv rfl) ?_
      refine O.op (.p rfl) (.min2 rfl rfl) ?_
      refine O.slot 51 (v' := .int .i64 (min keep more)) rfl (by refine congrArg _ ?_; split <;> omega) ?_
      refine O.callSs (.p rfl) rfl FactDmorelaw.ok13 rfl rfl (by repeat (first | exact Sels.nil | (apply Sels.cons; focus (repeat (first | exact Sel.here | apply Sel.there))))) (crash_g (keep := min keep more) hatA di.ok.w1 di.ok.w2 di.ok.sub di.ok.le) ?_
      rintro v52 _ ⟨sA, cA, lA, kA, hcA, rfl, rfl⟩
      try simp only [List.cons_append, List.nil_append, List.append_nil]
      refine O.nil ?_
      refine S.seq (S.region rfl ?_)
      refine O.op (.p rfl) (.mv rfl) ?_
      refine O.op (.p rfl) (.mv rfl) ?_
      refine O.op (.p rfl) (.mv rfl) ?_
      refine O.op (.p rfl) (.max2 rfl rfl) ?_
      refine O.slot 56 (v' := .int .i64 (max keep more)) rfl (by refine congrArg _ ?_; split <;> omega) ?_
      refine O.callSs (.p rfl) rfl FactDmorelaw.ok13 rfl rfl (by repeat (first | exact Sels.nil | (apply Sels.cons; focus (repeat (first | exact Sel.here | apply Sel.there))))) (crash_g (keep := max keep more) hatB di.ok.w1 di.ok.w2 di.ok.sub di.ok.le) ?_
      rintro v57 _ ⟨sB, cB, lB, kB, hcB, rfl, rfl⟩
      try simp only [List.cons_append, List.nil_append, List.append_nil]
      refine O.nil ?_
      refine S.seq (S.region rfl ?_)
      refine O.op (.p rfl) (.mv rfl) ?_
      refine O.callSs (.p rfl) rfl FactDmorelaw.ok13 rfl rfl (by repeat (first | exact Sels.nil | (apply Sels.cons; focus (repeat (first | exact Sel.here | apply Sel.there))))) (crash_g (keep := 1048576) hatC di.ok.w1 di.ok.w2 di.ok.sub di.ok.le) ?_
      rintro v59 _ ⟨sC, cC, lC, kC, hcC, rfl, rfl⟩
      try simp only [List.cons_append, List.nil_append, List.append_nil]
      refine O.nil ?_
      refine S.seq (S.region rfl ?_)
      refine O.op (.p rfl) (.mv rfl) ?_
      refine O.callSs (.p rfl) rfl FactDmorelaw.ok18 rfl rfl (by repeat (first | exact Sels.nil | (apply Sels.cons; focus (repeat (first | exact Sel.here | apply Sel.there))))) (list_g hat' di.ok (by have := di.len; omega) fun x hx => Nat.le_trans (di.q x hx) (by decide)) ?_
      rintro v61 _ ⟨a61, n61, rfl, rfl⟩
      try simp only [List.cons_append, List.nil_append, List.append_nil]
      refine O.frzA (by repeat (first | exact Sel.here | apply Sel.there)) fun g hs hm ha61 => ?_
      replace hg := Fr.sub_trans hg hs
      replace hR := melted hR hm
      try replace ha := ha.mono hs
      try replace hat := hat.mono hs
      try replace hat' := hat'.mono hs
      try replace hatA := hatA.mono hs
      try replace hatB := hatB.mono hs
      try replace hatC := hatC.mono hs
      replace hm1 := meltTrans hm1 hm
      clear hs hm
      refine O.op (.p rfl) (.as rfl) ?_
      refine O.nil ?_
      refine S.seq (S.seq (S.region rfl ?_))
      refine O.op (.p rfl) (.as rfl) ?_
      refine O.nil ?_
      refine S.block ?_
      have dA := di.crash hcA
      have dB := di.crash hcB
      have dC' := di.crash hcC
      have vA := fun k => vOf_crash (m := m) hcA k
      have vB := fun k => vOf_crash (m := m) hcB k
      have vC := fun k => vOf_crash (m := m) hcC k
      have nA : namesT sA = namesT m.safe := crash_names di.ok hcA
      have nC : namesT sC = namesT m.safe := crash_names di.ok hcC
      obtain ⟨mA, hmA⟩ : ∃ x : DiskM, x = ⟨sA, cA, lA, kA, m.room⟩ := ⟨_, rfl⟩
      obtain ⟨mB, hmB⟩ : ∃ x : DiskM, x = ⟨sB, cB, lB, kB, m.room⟩ := ⟨_, rfl⟩
      obtain ⟨mC, hmC⟩ : ∃ x : DiskM, x = ⟨sC, cC, lC, kC, m.room⟩ := ⟨_, rfl⟩
      have hatA' : At g.h ⟨d43, 0, none⟩ (dC u43 w43 mA.room) := by rw [hmA]; exact hatA
      have hatB' : At g.h ⟨d45, 0, none⟩ (dC u45 w45 mB.room) := by rw [hmB]; exact hatB
      have hatC' : At g.h ⟨d47, 0, none⟩ (dC u47 w47 mC.room) := by rw [hmC]; exact hatC
      rw [← hmA] at dA
      rw [← hmB] at dB
      rw [← hmC] at dC'
      simp only [← hmA] at vA
      simp only [← hmB] at vB
      simp only [← hmC] at vC
      rw [show sA = mA.safe from by rw [hmA]] at nA
      rw [show sC = mC.safe from by rw [hmC]] at nC
      rw [show MapT u43 sA cA = MapT u43 mA.safe mA.c1 from by rw [hmA], show MapT w43 lA kA = MapT w43 mA.loose mA.c2 from by rw [hmA], show MapT u45 sB cB = MapT u45 mB.safe mB.c1 from by rw [hmB], show MapT w45 lB kB = MapT w45 mB.loose mB.c2 from by rw [hmB], show MapT u47 sC cC = MapT u47 mC.safe mC.c1 from by rw [hmC], show MapT w47 lC kC = MapT w47 mC.loose mC.c2 from by rw [hmC]]
      have hlA := dA.len
      have hlB := dB.len
      have hlC := dC'.len
      have hlm := di.len
      have hnl : (namesT m.safe).length = m.safe.length := by simp [namesT]
      refine S.pk (ζ := [MapT u43 mA.safe mA.c1, MapT w43 mA.loose mA.c2, MapT u45 mB.safe mB.c1, MapT w45 mB.loose mB.c2, MapT u47 mC.safe mC.c1, MapT w47 mC.loose mC.c2, MapT q129 m.safe m.c1, MapT q229 m.loose m.c2]) (by repeat (first | exact Picks.all | exact Picks.nil | (apply Picks.cons; focus (repeat (first | exact Sel.here | apply Sel.there))) | apply Picks.skip)) ?_
      refine S.loopK (ι := Nat) (fun j => j ≤ (namesT m.safe).length) (fun j => [(13, .int .i64 (j : Int))]) [(1, _), (2, _), (7, _), (9, _), (10, _), (11, _), (12, _)] (fun j => [MapT u43 mA.safe mA.c1, MapT w43 mA.loose mA.c2, MapT u45 mB.safe mB.c1, MapT w45 mB.loose mB.c2, MapT u47 mC.safe mC.c1, MapT w47 mC.loose mC.c2, MapT q129 m.safe m.c1, MapT q229 m.loose m.c2]) (fun j => (namesT m.safe).length - j) (0) (by exact Nat.zero_le _) (.cons rfl (.nil)) (.cons rfl (.cons rfl (.cons rfl (.cons rfl (.cons rfl (.cons rfl (.cons rfl (.nil)))))))) rfl fun j hx ih => ?_
      have hm2 := meltRefl (g := g)
      refine S.seq (S.seq (S.region rfl ?_))
      refine O.op (.p rfl) (.mv rfl) ?_
      refine O.op (.p rfl) (.mv rfl) ?_
      refine O.op (.p rfl) (.len rfl Go.Proofs.Tryd.underlying50 rfl) ?_
      refine O.op (.p rfl) (.lss rfl rfl) ?_
      refine O.nil ?_
      first | refine S.condD rfl (fun h65 => ?_) (fun h65 => ?_) | refine S.condB rfl (fun h65 => ?_) (fun h65 => ?_)
      · have hj : j < (namesT m.safe).length := by omega
        have hmem := names_mem (List.getElem_mem hj)
        obtain ⟨sx, hsx⟩ := Option.isSome_iff_exists.1 hmem
        obtain ⟨lx, hv⟩ : ∃ lx, vOf m (namesT m.safe)[j] = some (sx, lx) := ⟨_, by unfold vOf; rw [hsx]; rfl⟩
        obtain ⟨a, b, hab, hbl, eX, eY⟩ := more_facts (min keep more) (max keep more) (by omega) sx lx
        have eZ : crashB 1048576 sx lx = sx ++ lx := all_facts (by have := loose_used hv; omega)
        have rA := read_view dA.ok (k := (namesT m.safe)[j]) (s := (sx ++ lx).take a) (l := []) (by rw [vA, hv, ← eX]; rfl)
        have rB := read_view dB.ok (k := (namesT m.safe)[j]) (s := (sx ++ lx).take b) (l := []) (by rw [vB, hv, ← eY]; rfl)
        have rC := read_view dC'.ok (k := (namesT m.safe)[j]) (s := sx ++ lx) (l := []) (by rw [vC, hv, ← eZ]; rfl)
        have rM := read_view di.ok hv
        have hxl := read_len di.ok (namesT m.safe)[j]
        rw [rM.1] at hxl
        rw [List.append_nil] at rA rB rC
        generalize sx ++ lx = Z at *
        have lX : (Z.take a).length = a := by rw [List.length_take]; omega
        have lY : (Z.take b).length = b := by rw [List.length_take]; omega
        have tY : (Z.take b).take a = Z.take a := by rw [List.take_take]; congr 1; omega
        refine S.skip (S.seq (S.block (S.seq (S.region rfl ?_))))
        refine O.op (.p rfl) (.mv rfl) ?_
        refine O.op (.p rfl) (.mv rfl) ?_
        refine O.op (.p rfl) (.mv rfl) ?_
        refine O.idx' (.p rfl) Go.Proofs.Tryd.underlying50 FactDmorelaw.size9 rfl rfl rfl (by first | assumption | exact Arr.mono hg (by assumption) | exact Arr.left (by assumption) | exact Arr.left (Arr.mono hg (by assumption))) (by decide) (by first | omega | (simp; done) | (simp; omega) | decide) (fun p72 cs72 hp72 hr72 => ?_)
        obtain ⟨rfl, hz72⟩ := hr72
        refine O.op (.p rfl) (.loadAt FactDmorelaw.flat9 rfl hp72 rfl) ?_
        refine O.callSs (.p rfl) rfl FactDmorelaw.ok15 rfl rfl (by repeat (first | exact Sels.nil | (apply Sels.cons; focus (repeat (first | exact Sel.here | apply Sel.there))))) (read_g (name := (namesT m.safe)[j]) hatA' dA.ok) ?_
        rintro v74 _ ⟨a74, c74, rfl, rfl⟩
        try simp only [List.cons_append, List.nil_append, List.append_nil]
        simp only [rA.1, rA.2]
        refine O.frzW Sel.here fun g hs hm ha74 => ?_
        replace hg := Fr.sub_trans hg hs
        replace hR := melted hR hm
        try replace ha := ha.mono hs
        try replace hat := hat.mono hs
        try replace hat' := hat'.mono hs
        try replace hatA := hatA.mono hs
        try replace hatB := hatB.mono hs
        try replace hatC := hatC.mono hs
        try replace ha61 := ha61.mono hs
        try replace hatA' := hatA'.mono hs
        try replace hatB' := hatB'.mono hs
        try replace hatC' := hatC'.mono hs
        try replace hp72 := hp72.mono hs
        replace hm1 := meltTrans hm1 hm
        replace hm2 := meltTrans hm2 hm
        clear hs hm
        refine O.op (.p rfl) (.mv rfl) ?_
        refine O.op (.p rfl) (.extract rfl rfl) ?_
        refine O.op (.p rfl) (.extract rfl rfl) ?_
        refine O.op (.p rfl) (.as rfl) ?_
        refine O.op (.p rfl) (.as rfl) ?_
        refine O.nil ?_
        refine S.seq (S.region rfl ?_)
        refine O.op (.p rfl) (.mv rfl) ?_
        refine O.op (.p rfl) (.mv rfl) ?_
        refine O.op (.p rfl) (.mv rfl) ?_
        refine O.idx' (.p rfl) Go.Proofs.Tryd.underlying50 FactDmorelaw.size9 rfl rfl rfl (by first | assumption | exact Arr.mono hg (by assumption) | exact Arr.left (by assumption) | exact Arr.left (Arr.mono hg (by assumption))) (by decide) (by first | omega | (simp; done) | (simp; omega) | decide) (fun p81 cs81 hp81 hr81 => ?_)
        obtain ⟨rfl, hz81⟩ := hr81
        refine O.op (.p rfl) (.loadAt FactDmorelaw.flat9 rfl hp81 rfl) ?_
        refine O.callSs (.p rfl) rfl FactDmorelaw.ok15 rfl rfl (by repeat (first | exact Sels.nil | (apply Sels.cons; focus (repeat (first | exact Sel.here | apply Sel.there))))) (read_g (name := (namesT m.safe)[j]) hatB' dB.ok) ?_
        rintro v83 _ ⟨a83, c83, rfl, rfl⟩
        try simp only [List.cons_append, List.nil_append, List.append_nil]
        simp only [rB.1, rB.2]
        refine O.frzW Sel.here fun g hs hm ha83 => ?_
        replace hg := Fr.sub_trans hg hs
        replace hR := melted hR hm
        try replace ha := ha.mono hs
        try replace hat := hat.mono hs
        try replace hat' := hat'.mono hs
        try replace hatA := hatA.mono hs
        try replace hatB := hatB.mono hs
        try replace hatC := hatC.mono hs
        try replace ha61 := ha61.mono hs
        try replace hatA' := hatA'.mono hs
        try replace hatB' := hatB'.mono hs
        try replace hatC' := hatC'.mono hs
        try replace hp72 := hp72.mono hs
        try replace ha74 := ha74.mono hs
        try replace hp81 := hp81.mono hs
        replace hm1 := meltTrans hm1 hm
        replace hm2 := meltTrans hm2 hm
        clear hs hm
        refine O.op (.p rfl) (.mv rfl) ?_
        refine O.op (.p rfl) (.extract rfl rfl) ?_
        refine O.op (.p rfl) (.extract rfl rfl) ?_
        refine O.op (.p rfl) (.as rfl) ?_
        refine O.op (.p rfl) (.as rfl) ?_
        refine O.nil ?_
        refine S.seq (S.region rfl ?_)
        refine O.op (.p rfl) (.mv rfl) ?_
        refine O.op (.p rfl) (.mv rfl) ?_
        refine O.op (.p rfl) (.mv rfl) ?_
        refine O.idx' (.p rfl) Go.Proofs.Tryd.underlying50 FactDmorelaw.size9 rfl rfl rfl (by first | assumption | exact Arr.mono hg (by assumption) | exact Arr.left (by assumption) | exact Arr.left (Arr.mono hg (by assumption))) (by decide) (by first | omega | (simp; done) | (simp; omega) | decide) (fun p90 cs90 hp90 hr90 => ?_)
        obtain ⟨rfl, hz90⟩ := hr90
        refine O.op (.p rfl) (.loadAt FactDmorelaw.flat9 rfl hp90 rfl) ?_
        refine O.callSs (.p rfl) rfl FactDmorelaw.ok15 rfl rfl (by repeat (first | exact Sels.nil | (apply Sels.cons; focus (repeat (first | exact Sel.here | apply Sel.there))))) (read_g (name := (namesT m.safe)[j]) hatC' dC'.ok) ?_
        rintro v92 _ ⟨a92, c92, rfl, rfl⟩
        try simp only [List.cons_append, List.nil_append, List.append_nil]
        simp only [rC.1, rC.2]
        refine O.frzW Sel.here fun g hs hm ha92 => ?_
        replace hg := Fr.sub_trans hg hs
        replace hR := melted hR hm
        try replace ha := ha.mono hs
        try replace hat := hat.mono hs
        try replace hat' := hat'.mono hs
        try replace hatA := hatA.mono hs
        try replace hatB := hatB.mono hs
        try replace hatC := hatC.mono hs
        try replace ha61 := ha61.mono hs
        try replace hatA' := hatA'.mono hs
        try replace hatB' := hatB'.mono hs
        try replace hatC' := hatC'.mono hs
        try replace hp72 := hp72.mono hs
        try replace ha74 := ha74.mono hs
        try replace hp81 := hp81.mono hs
        try replace ha83 := ha83.mono hs
        try replace hp90 := hp90.mono hs
        replace hm1 := meltTrans hm1 hm
        replace hm2 := meltTrans hm2 hm
        clear hs hm
        refine O.op (.p rfl) (.mv rfl) ?_
        refine O.op (.p rfl) (.extract rfl rfl) ?_
        refine O.op (.p rfl) (.extract rfl rfl) ?_
        refine O.op (.p rfl) (.as rfl) ?_
        refine O.op (.p rfl) (.as rfl) ?_
        refine O.nil ?_
        refine S.seq (S.region rfl ?_)
        refine O.op (.p rfl) (.mv rfl) ?_
        refine O.op (.p rfl) (.mv rfl) ?_
        refine O.op (.p rfl) (.mv rfl) ?_
        refine O.idx' (.p rfl) Go.Proofs.Tryd.underlying50 FactDmorelaw.size9 rfl rfl rfl (by first | assumption | exact Arr.mono hg (by assumption) | exact Arr.left (by assumption) | exact Arr.left (Arr.mono hg (by assumption))) (by decide) (by first | omega | (simp; done) | (simp; omega) | decide) (fun p99 cs99 hp99 hr99 => ?_)
        obtain ⟨rfl, hz99⟩ := hr99
        refine O.op (.p rfl) (.loadAt FactDmorelaw.flat9 rfl hp99 rfl) ?_
        refine O.callSs (.p rfl) rfl FactDmorelaw.ok15 rfl rfl (by repeat (first | exact Sels.nil | (apply Sels.cons; focus (repeat (first | exact Sel.here | apply Sel.there))))) (read_g (name := (namesT m.safe)[j]) hat' di.ok) ?_
        rintro v101 _ ⟨a101, c101, rfl, rfl⟩
        try simp only [List.cons_append, List.nil_append, List.append_nil]
        simp only [rM.1, rM.2]
        refine O.frzW Sel.here fun g hs hm ha101 => ?_
        replace hg := Fr.sub_trans hg hs
        replace hR := melted hR hm
        try replace ha := ha.mono hs
        try replace hat := hat.mono hs
        try replace hat' := hat'.mono hs
        try replace hatA := hatA.mono hs
        try replace hatB := hatB.mono hs
        try replace hatC := hatC.mono hs
        try replace ha61 := ha61.mono hs
        try replace hatA' := hatA'.mono hs
        try replace hatB' := hatB'.mono hs
        try replace hatC' := hatC'.mono hs
        try replace hp72 := hp72.mono hs
        try replace ha74 := ha74.mono hs
        try replace hp81 := hp81.mono hs
        try replace ha83 := ha83.mono hs
        try replace hp90 := hp90.mono hs
        try replace ha92 := ha92.mono hs
        try replace hp99 := hp99.mono hs
        replace hm1 := meltTrans hm1 hm
        replace hm2 := meltTrans hm2 hm
        clear hs hm
        refine O.op (.p rfl) (.mv rfl) ?_
        refine O.op (.p rfl) (.extract rfl rfl) ?_
        refine O.op (.p rfl) (.extract rfl rfl) ?_
        refine O.op (.p rfl) (.as rfl) ?_
        refine O.op (.p rfl) (.as rfl) ?_
        refine O.nil ?_
        refine S.seq (S.region rfl ?_)
        refine O.op (.p rfl) (.mv rfl) ?_
        refine O.op (.p rfl) (.neq rfl rfl) ?_
        refine O.slot 105 (v' := .bool false) rfl (congrArg Value.bool (by rfl)) ?_
        refine O.op (.p rfl) (.mv rfl) ?_
        refine O.op (.g rfl rfl) (.mv rfl) ?_
        refine O.op (.g rfl rfl) (.neq rfl rfl) ?_
        refine O.slot 108 (v' := .bool false) rfl (congrArg Value.bool (by rfl)) ?_
        refine O.op (.p rfl) (.pickF rfl rfl) ?_
        refine O.op (.p rfl) (.mv rfl) ?_
        refine O.op (.g rfl rfl) (.mv rfl) ?_
        refine O.op (.g rfl rfl) (.neq rfl rfl) ?_
        refine O.slot 112 (v' := .bool false) rfl (congrArg Value.bool (by rfl)) ?_
        refine O.op (.p rfl) (.pickF rfl rfl) ?_
        refine O.op (.p rfl) (.mv rfl) ?_
        refine O.op (.g rfl rfl) (.mv rfl) ?_
        refine O.op (.g rfl rfl) (.mv rfl) ?_
        refine O.call0 (.g rfl rfl) rfl FactDmorelaw.ok22 rfl rfl (SameBytes_c (by first | assumption | exact Arr.mono hg (by assumption) | exact Arr.left (by assumption) | exact Arr.left (Arr.mono hg (by assumption))) (by first | assumption | exact Arr.mono hg (by assumption) | exact Arr.left (by assumption) | exact Arr.left (Arr.mono hg (by assumption)))) ?_
        rintro v117 _ ⟨rfl, rfl⟩
        try simp only [List.cons_append, List.nil_append, List.append_nil]
        refine O.slot 117 (v' := .bool true) rfl (congrArg Value.bool (by simp)) ?_
        refine O.op (.g rfl rfl) (.not rfl) ?_
        refine O.op (.p rfl) (.pickF rfl rfl) ?_
        refine O.op (.p rfl) (.mv rfl) ?_
        refine O.op (.g rfl rfl) (.mv rfl) ?_
        refine O.op (.g rfl rfl) (.len rfl Go.Proofs.Tryd.underlying31 rfl) ?_
        refine O.op (.g rfl rfl) (.mv rfl) ?_
        refine O.op (.g rfl rfl) (.len rfl Go.Proofs.Tryd.underlying31 rfl) ?_
        refine O.op (.g rfl rfl) (.gtr rfl rfl) ?_
        refine O.slot 125 (v' := .bool false) rfl (congrArg Value.bool (by exact decide_eq_false (by omega))) ?_
        refine O.op (.p rfl) (.pickF rfl rfl) ?_
        refine O.op (.p rfl) (.mv rfl) ?_
        refine O.op (.g rfl rfl) (.mv rfl) ?_
        refine O.op (.g rfl rfl) (.len rfl Go.Proofs.Tryd.underlying31 rfl) ?_
        refine O.op (.g rfl rfl) (.mv rfl) ?_
        refine O.op (.g rfl rfl) (.len rfl Go.Proofs.Tryd.underlying31 rfl) ?_
        refine O.op (.g rfl rfl) (.gtr rfl rfl) ?_
        refine O.slot 132 (v' := .bool false) rfl (congrArg Value.bool (by exact decide_eq_false (by omega))) ?_
        refine O.op (.p rfl) (.pickF rfl rfl) ?_
        refine O.op (.p rfl) (.mv rfl) ?_
        refine O.op (.g rfl rfl) (.mv rfl) ?_
        refine O.op (.g rfl rfl) (.mv rfl) ?_
        refine O.op (.g rfl rfl) (.len rfl Go.Proofs.Tryd.underlying31 rfl) ?_
        refine O.sliceTo (b := (Z.take a).length) (.g rfl rfl) Go.Proofs.Tryd.underlying31 FactDmorelaw.size5 rfl rfl (by assumption) (by first | omega | (simp; done) | (simp; omega) | decide) (by first | omega | (simp; done) | (simp; omega) | decide) (fun u138 ha138 => ?_)
        obtain ⟨a138, c138, rfl⟩ := ha138.shape
        refine O.op (.g rfl rfl) (.mv rfl) ?_
        refine O.call0 (.g rfl rfl) rfl FactDmorelaw.ok22 rfl rfl (SameBytes_c (by first | assumption | exact Arr.mono hg (by assumption) | exact Arr.left (by assumption) | exact Arr.left (Arr.mono hg (by assumption))) (by first | assumption | exact Arr.mono hg (by assumption) | exact Arr.left (by assumption) | exact Arr.left (Arr.mono hg (by assumption)))) ?_
        rintro v140 _ ⟨rfl, rfl⟩
        try simp only [List.cons_append, List.nil_append, List.append_nil]
        refine O.slot 140 (v' := .bool true) rfl (congrArg Value.bool (by rw [lX, tY]; simp)) ?_
        refine O.op (.g rfl rfl) (.not rfl) ?_
        refine O.op (.p rfl) (.pickF rfl rfl) ?_
        refine O.op (.p rfl) (.mv rfl) ?_
        refine O.op (.g rfl rfl) (.mv rfl) ?_
        refine O.op (.g rfl rfl) (.mv rfl) ?_
        refine O.op (.g rfl rfl) (.len rfl Go.Proofs.Tryd.underlying31 rfl) ?_
        refine O.sliceTo (b := (Z.take b).length) (.g rfl rfl) Go.Proofs.Tryd.underlying31 FactDmorelaw.size5 rfl rfl (by assumption) (by first | omega | (simp; done) | (simp; omega) | decide) (by first | omega | (simp; done) | (simp; omega) | decide) (fun u147 ha147 => ?_)
        obtain ⟨a147, c147, rfl⟩ := ha147.shape
        refine O.op (.g rfl rfl) (.mv rfl) ?_
        refine O.call0 (.g rfl rfl) rfl FactDmorelaw.ok22 rfl rfl (SameBytes_c (by first | assumption | exact Arr.mono hg (by assumption) | exact Arr.left (by assumption) | exact Arr.left (Arr.mono hg (by assumption))) (by first | assumption | exact Arr.mono hg (by assumption) | exact Arr.left (by assumption) | exact Arr.left (Arr.mono hg (by assumption)))) ?_
        rintro v149 _ ⟨rfl, rfl⟩
        try simp only [List.cons_append, List.nil_append, List.append_nil]
        refine O.slot 149 (v' := .bool true) rfl (congrArg Value.bool (by rw [lY]; simp)) ?_
        refine O.op (.g rfl rfl) (.not rfl) ?_
        refine O.op (.p rfl) (.pickF rfl rfl) ?_
        refine O.nil ?_
        refine S.condF rfl ?_
        refine S.skip (S.inBlock (S.region rfl ?_))
        refine O.op (.p rfl) (.mv rfl) ?_
        refine O.op (.p rfl) (.add rfl rfl (IntWalk.i64_in _ (by omega))) ?_
        refine O.op (.p rfl) (.as rfl) ?_
        refine O.nil ?_
        refine S.pk ?_ (S.melt hm2 (S.weaken ?_ (ih (j + 1) (by exact hj) (by omega))))
        · repeat (first | exact Picks.all | exact Picks.nil | (apply Picks.cons; focus (repeat (first | exact Sel.here | apply Sel.there))) | apply Picks.skip)
        repeat (first | exact Sub.nil | refine Sub.cons rfl ?_)
      · clear ih
        refine S.exit rfl ?_
        refine S.seq (S.region rfl ?_)
        refine O.op (.p rfl) (.mv rfl) ?_
        refine O.callSs (.p rfl) rfl FactDmorelaw.ok19 rfl rfl (by repeat (first | exact Sels.nil | (apply Sels.cons; focus (repeat (first | exact Sel.here | apply Sel.there))))) (copy_g hatA') ?_
        rintro v153 _ ⟨d153, u153, w153, rfl, rfl⟩
        try simp only [List.cons_append, List.nil_append, List.append_nil]
        refine O.frzO (by repeat (first | exact Sel.here | apply Sel.there)) fun g hs hm hatD => ?_
        replace hg := Fr.sub_trans hg hs
        replace hR := melted hR hm
        try replace ha := ha.mono hs
        try replace hat := hat.mono hs
        try replace hat' := hat'.mono hs
        try replace hatA := hatA.mono hs
        try replace hatB := hatB.mono hs
        try replace hatC := hatC.mono hs
        try replace ha61 := ha61.mono hs
        try replace hatA' := hatA'.mono hs
        try replace hatB' := hatB'.mono hs
        try replace hatC' := hatC'.mono hs
        replace hm1 := meltTrans hm1 hm
        replace hm2 := meltTrans hm2 hm
        clear hs hm
        refine O.op (.p rfl) (.mv rfl) ?_
        refine O.callSs (.p rfl) rfl FactDmorelaw.ok19 rfl rfl (by repeat (first | exact Sels.nil | (apply Sels.cons; focus (repeat (first | exact Sel.here | apply Sel.there))))) (copy_g hatB') ?_
        rintro v155 _ ⟨d155, u155, w155, rfl, rfl⟩
        try simp only [List.cons_append, List.nil_append, List.append_nil]
        refine O.frzO (by repeat (first | exact Sel.here | apply Sel.there)) fun g hs hm hatE => ?_
        replace hg := Fr.sub_trans hg hs
        replace hR := melted hR hm
        try replace ha := ha.mono hs
        try replace hat := hat.mono hs
        try replace hat' := hat'.mono hs
        try replace hatA := hatA.mono hs
        try replace hatB := hatB.mono hs
        try replace hatC := hatC.mono hs
        try replace ha61 := ha61.mono hs
        try replace hatA' := hatA'.mono hs
        try replace hatB' := hatB'.mono hs
        try replace hatC' := hatC'.mono hs
        try replace hatD := hatD.mono hs
        replace hm1 := meltTrans hm1 hm
        replace hm2 := meltTrans hm2 hm
        clear hs hm
        refine O.op (.p rfl) (.as rfl) ?_
        refine O.op (.p rfl) (.as rfl) ?_
        refine O.nil ?_
        refine S.seq (S.region rfl ?_)
        refine O.op (.p rfl) (.mv rfl) ?_
        refine O.op (.p rfl) (.mv rfl) ?_
        refine O.callSs (.p rfl) rfl FactDmorelaw.ok13 rfl rfl (by repeat (first | exact Sels.nil | (apply Sels.cons; focus (repeat (first | exact Sel.here | apply Sel.there))))) (crash_g (keep := more) hatD dA.ok.w1 dA.ok.w2 dA.ok.sub dA.ok.le) ?_
        rintro v158 _ ⟨sD, cD, lD, kD, hcD, rfl, rfl⟩
        try simp only [List.cons_append, List.nil_append, List.append_nil]
        refine O.nil ?_
        refine S.seq (S.region rfl ?_)
        refine O.op (.p rfl) (.mv rfl) ?_
        refine O.op (.p rfl) (.mv rfl) ?_
        refine O.callSs (.p rfl) rfl FactDmorelaw.ok13 rfl rfl (by repeat (first | exact Sels.nil | (apply Sels.cons; focus (repeat (first | exact Sel.here | apply Sel.there))))) (crash_g (keep := keep) hatE dB.ok.w1 dB.ok.w2 dB.ok.sub dB.ok.le) ?_
        rintro v161 _ ⟨sE, cE, lE, kE, hcE, rfl, rfl⟩
        try simp only [List.cons_append, List.nil_append, List.append_nil]
        refine O.nil ?_
        refine S.seq ?_
        have dD := dA.crash hcD
        have dE := dB.crash hcE
        have hvD : ∀ k, vOf mA k = vOf ⟨sD, cD, lD, kD, mA.room⟩ k := fun k => by rw [vOf_crash hcD, vA]; cases vOf m k <;> simp [crashB_nil]
        have hvE : ∀ k, vOf mB k = vOf ⟨sE, cE, lE, kE, mB.room⟩ k := fun k => by rw [vOf_crash hcE, vB]; cases vOf m k <;> simp [crashB_nil]
        refine S.region rfl ?_
        refine O.op (.p rfl) (.mv rfl) ?_
        refine O.op (.p rfl) (.mv rfl) ?_
        refine O.callSs (.p rfl) rfl FactDmorelaw.ok21 rfl rfl (by repeat (first | exact Sels.nil | (apply Sels.cons; focus (repeat (first | exact Sel.here | apply Sel.there))))) (alike_g (m2 := ⟨sD, cD, lD, kD, mA.room⟩) hatA' hatD dA dD (by omega) (by omega) hvD) ?_
        rintro v164 _ ⟨rfl, rfl⟩
        try simp only [List.cons_append, List.nil_append, List.append_nil]
        refine O.op (.p rfl) (.mv rfl) ?_
        refine O.op (.g rfl rfl) (.mv rfl) ?_
        refine O.op (.g rfl rfl) (.mv rfl) ?_
        refine O.callSs (.g rfl rfl) rfl FactDmorelaw.ok21 rfl rfl (by repeat (first | exact Sels.nil | (apply Sels.cons; focus (repeat (first | exact Sel.here | apply Sel.there))))) (alike_g (m2 := ⟨sE, cE, lE, kE, mB.room⟩) hatB' hatE dB dE (by omega) (by omega) hvE) ?_
        rintro v168 _ ⟨rfl, rfl⟩
        try simp only [List.cons_append, List.nil_append, List.append_nil]
        refine O.op (.p rfl) (.pickT rfl rfl) ?_
        refine O.op (.p rfl) (.mv rfl) ?_
        refine O.op (.g rfl rfl) (.mv rfl) ?_
        refine O.callSs (.g rfl rfl) rfl FactDmorelaw.ok18 rfl rfl (by repeat (first | exact Sels.nil | (apply Sels.cons; focus (repeat (first | exact Sel.here | apply Sel.there))))) (list_g hatA' dA.ok (by omega) fun x hx => Nat.le_trans (dA.q x hx) (by decide)) ?_
        rintro v172 _ ⟨a172, n172, rfl, rfl⟩
        try simp only [List.cons_append, List.nil_append, List.append_nil]
        simp only [nA]
        refine O.frzA (by repeat (first | exact Sel.here | apply Sel.there)) fun g hs hm ha172 => ?_
        replace hg := Fr.sub_trans hg hs
        replace hR := melted hR hm
        try replace ha := ha.mono hs
        try replace hat := hat.mono hs
        try replace hat' := hat'.mono hs
        try replace hatA := hatA.mono hs
        try replace hatB := hatB.mono hs
        try replace hatC := hatC.mono hs
        try replace ha61 := ha61.mono hs
        try replace hatA' := hatA'.mono hs
        try replace hatB' := hatB'.mono hs
        try replace hatC' := hatC'.mono hs
        try replace hatD := hatD.mono hs
        try replace hatE := hatE.mono hs
        replace hm1 := meltTrans hm1 hm
        replace hm2 := meltTrans hm2 hm
        clear hs hm
        refine O.op (.g rfl rfl) (.mv rfl) ?_
        refine O.call0 (.g rfl rfl) rfl FactDmorelaw.ok23 rfl rfl (SameTexts_c (by first | assumption | exact Arr.mono hg (by assumption) | exact Arr.left (by assumption) | exact Arr.left (Arr.mono hg (by assumption))) (by first | assumption | exact Arr.mono hg (by assumption) | exact Arr.left (by assumption) | exact Arr.left (Arr.mono hg (by assumption)))) ?_
        rintro v174 _ ⟨rfl, rfl⟩
        try simp only [List.cons_append, List.nil_append, List.append_nil]
        refine O.slot 174 (v' := .bool true) rfl (congrArg Value.bool (by simp)) ?_
        refine O.op (.p rfl) (.pickT rfl rfl) ?_
        refine O.op (.p rfl) (.mv rfl) ?_
        refine O.op (.g rfl rfl) (.mv rfl) ?_
        refine O.callSs (.g rfl rfl) rfl FactDmorelaw.ok18 rfl rfl (by repeat (first | exact Sels.nil | (apply Sels.cons; focus (repeat (first | exact Sel.here | apply Sel.there))))) (list_g hatC' dC'.ok (by omega) fun x hx => Nat.le_trans (dC'.q x hx) (by decide)) ?_
        rintro v178 _ ⟨a178, n178, rfl, rfl⟩
        try simp only [List.cons_append, List.nil_append, List.append_nil]
        simp only [nC]
        refine O.frzA (by repeat (first | exact Sel.here | apply Sel.there)) fun g hs hm ha178 => ?_
        replace hg := Fr.sub_trans hg hs
        replace hR := melted hR hm
        try replace ha := ha.mono hs
        try replace hat := hat.mono hs
        try replace hat' := hat'.mono hs
        try replace hatA := hatA.mono hs
        try replace hatB := hatB.mono hs
        try replace hatC := hatC.mono hs
        try replace ha61 := ha61.mono hs
        try replace hatA' := hatA'.mono hs
        try replace hatB' := hatB'.mono hs
        try replace hatC' := hatC'.mono hs
        try replace hatD := hatD.mono hs
        try replace hatE := hatE.mono hs
        try replace ha172 := ha172.mono hs
        replace hm1 := meltTrans hm1 hm
        replace hm2 := meltTrans hm2 hm
        clear hs hm
        refine O.op (.g rfl rfl) (.mv rfl) ?_
        refine O.call0 (.g rfl rfl) rfl FactDmorelaw.ok23 rfl rfl (SameTexts_c (by first | assumption | exact Arr.mono hg (by assumption) | exact Arr.left (by assumption) | exact Arr.left (Arr.mono hg (by assumption))) (by first | assumption | exact Arr.mono hg (by assumption) | exact Arr.left (by assumption) | exact Arr.left (Arr.mono hg (by assumption)))) ?_
        rintro v180 _ ⟨rfl, rfl⟩
        try simp only [List.cons_append, List.nil_append, List.append_nil]
        refine O.slot 180 (v' := .bool true) rfl (congrArg Value.bool (by simp)) ?_
        refine O.op (.p rfl) (.pickT rfl rfl) ?_
        refine O.op (.p rfl) (.as rfl) ?_
        refine O.nil ?_
        refine S.ret Go.Proofs.Tryd.results6 rfl fun w hw => Holds.end_ hR hw ?_
        exact ⟨_, ⟨rfl, rfl⟩, by repeat (first | exact Picks.all | exact Picks.nil | (apply Picks.cons; focus (repeat (first | exact Sel.here | apply Sel.there))) | apply Picks.skip)⟩

end Go.Proofs.YtkkcpckgnfcncaaDoor
